/- Archive: what a query finds: the beginning of look. -/
import Derived.Test.YtdmgljlabigljaaTU
namespace Go.Proofs.Ytdmgljlabigljaa.Ab
open Go Go.RowKit Go.Proofs
set_option linter.unusedSimpArgs false
set_option linter.unusedVariables false
attribute [local irreducible] Awp wpO thenQ blockQ bodyQ ACalls stepA

structure Qy where
  reader : Int
  now : Int
  asOf : Int
  series : Int
  frm : Int
  to : Int
def Qy.cs (q : Qy) : List AV := [iv q.reader, iv q.now, iv q.asOf, iv q.series, iv q.frm, iv q.to]
def qOK (S : List Ser) (q : Qy) : Prop := (0 ≤ q.reader ∧ q.reader < 64) ∧ timesB [q.now, q.asOf, q.frm, q.to] = true ∧ (0 ≤ q.series ∧ q.series < (S.length : Int)) ∧ q.frm < q.to
instance (S : List Ser) (q : Qy) : Decidable (qOK S q) := by unfold qOK; infer_instance
def inQ (q : Qy) (e : Ent) : Bool := decide (e.series = q.series ∧ e.time ≥ q.frm ∧ e.time < q.to)
def fndL (L : List Ent) (q : Qy) : List Ent := (cntL q.asOf L).filter (inQ q)
/-- entries that a reader may not see -/
def hidB (q : Qy) (e : Ent) : Bool := decide (e.owner ≠ q.reader ∧ e.free > q.now)
abbrev hidF (q : Qy) : AV := .fn (.func 40) [.rptr q.cs 0]

set_option maxRecDepth 8000 in
theorem hid_ok (H : Hp) (q : Qy) (e : Ent) : CallsTo Try.prog 40 [.agg e.cs, .rptr q.cs 0] H (bv (hidB q e)) H := by
  unfold Ent.cs Qy.cs hidB
  by_cases h1 : e.owner = q.reader
  · rw [decide_eq_false (by simp [h1])]
    rw [h1]
    refine ACalls.of_body Try.func40 rfl (by kernel_rfl) (by rw [Try.ntmps40]; simp) ?_; rw [Try.ntmps40]
    repeat' (first | refine spD (fun _ => ?_) (fun _ => ?_) | refine spF (fun _ => ?_) (fun _ => ?_) | (apply gT; (exact rfl)) | (apply off; (exact rfl); (exact rfl)) | (apply condT; (exact rfl)) | (apply condF; (exact rfl)) | ((first | (apply stp0; (exact rfl); (exact rfl)) | (apply stpN0; (exact rfl)) | apply gT | apply condT | ((first | apply bodyQ_d0 | apply bodyQ_d1 | apply bodyQ_d2 | apply bodyQ_d3 | apply bodyQ_d4); (exact .inr rfl); (rw [Try.results40]))); (first | (focus (simp only [go_sem, ↓reduceIte, simprocAttr, bne_self_eq_false] <;> rfl)) | exact rfl); (first | (fail_if_success (show okD _ _ _ _ _ _ _ _ _)) | (first | exact okT | exact okN | exact okE rfl)); (first | (fail_if_success (show Bel _ _)) | (focus first | exact .val _ | (simp [oneOf, Bel_iff_tup, Bel_iff_agg, Bel_iff_rsl, Bel_iff_fn, Bel_iff_rptr, Bel_val]; done)))) | refine thenQ_n ?_ | refine thenQ_r ?_ | refine thenQ_e ?_ | refine blockQ_n ?_ | refine blockQ_r ?_ | refine blockQ_e ?_ | (apply blockQ_o; (exact rfl)) | refine Awp.seq ?_ | refine Awp.skip ?_ | refine Awp.block ?_ | refine reg (fun s => false) ?_ | (apply drwE mixed (fun s => false); (kernel_rfl)) | refine fin ?_ | refine Awp.ret ?_ | refine Awp.exit ?_ | ((first | (apply off; (exact rfl)) | apply condF); (first | (focus (simp only [go_sem, ↓reduceIte, simprocAttr, bne_self_eq_false] <;> rfl)) | exact rfl)))
    all_goals first | rfl | contradiction | skip
  · by_cases h2 : e.free > q.now
    · rw [decide_eq_true ⟨h1, h2⟩]
      refine ACalls.of_body Try.func40 rfl (by kernel_rfl) (by rw [Try.ntmps40]; simp) ?_; rw [Try.ntmps40]
      repeat' (first | refine spD (fun _ => ?_) (fun _ => ?_) | refine spF (fun _ => ?_) (fun _ => ?_) | (apply gT; (exact rfl)) | (apply off; (exact rfl); (exact rfl)) | (apply condT; (exact rfl)) | (apply condF; (exact rfl)) | ((first | (apply stp0; (exact rfl); (exact rfl)) | (apply stpN0; (exact rfl)) | apply gT | apply condT | ((first | apply bodyQ_d0 | apply bodyQ_d1 | apply bodyQ_d2 | apply bodyQ_d3 | apply bodyQ_d4); (exact .inr rfl); (rw [Try.results40]))); (first | (focus (simp only [go_sem, ↓reduceIte, simprocAttr, h1, h2, ne_eq, not_false_eq_true] <;> rfl)) | exact rfl); (first | (fail_if_success (show okD _ _ _ _ _ _ _ _ _)) | (first | exact okT | exact okN | exact okE rfl)); (first | (fail_if_success (show Bel _ _)) | (focus first | exact .val _ | (simp [oneOf, Bel_iff_tup, Bel_iff_agg, Bel_iff_rsl, Bel_iff_fn, Bel_iff_rptr, Bel_val]; done)))) | refine thenQ_n ?_ | refine thenQ_r ?_ | refine thenQ_e ?_ | refine blockQ_n ?_ | refine blockQ_r ?_ | refine blockQ_e ?_ | (apply blockQ_o; (exact rfl)) | refine Awp.seq ?_ | refine Awp.skip ?_ | refine Awp.block ?_ | refine reg (fun s => false) ?_ | (apply drwE mixed (fun s => false); (kernel_rfl)) | refine fin ?_ | refine Awp.ret ?_ | refine Awp.exit ?_ | ((first | (apply off; (exact rfl)) | apply condF); (first | (focus (simp only [go_sem, ↓reduceIte, simprocAttr, h1, h2, ne_eq, not_false_eq_true] <;> rfl)) | exact rfl)))
      all_goals first | rfl | contradiction | skip
    · rw [decide_eq_false (fun h => h2 h.2)]
      refine ACalls.of_body Try.func40 rfl (by kernel_rfl) (by rw [Try.ntmps40]; simp) ?_; rw [Try.ntmps40]
      repeat' (first | refine spD (fun _ => ?_) (fun _ => ?_) | refine spF (fun _ => ?_) (fun _ => ?_) | (apply gT; (exact rfl)) | (apply off; (exact rfl); (exact rfl)) | (apply condT; (exact rfl)) | (apply condF; (exact rfl)) | ((first | (apply stp0; (exact rfl); (exact rfl)) | (apply stpN0; (exact rfl)) | apply gT | apply condT | ((first | apply bodyQ_d0 | apply bodyQ_d1 | apply bodyQ_d2 | apply bodyQ_d3 | apply bodyQ_d4); (exact .inr rfl); (rw [Try.results40]))); (first | (focus (simp only [go_sem, ↓reduceIte, simprocAttr, h1, h2, ne_eq, not_false_eq_true] <;> rfl)) | exact rfl); (first | (fail_if_success (show okD _ _ _ _ _ _ _ _ _)) | (first | exact okT | exact okN | exact okE rfl)); (first | (fail_if_success (show Bel _ _)) | (focus first | exact .val _ | (simp [oneOf, Bel_iff_tup, Bel_iff_agg, Bel_iff_rsl, Bel_iff_fn, Bel_iff_rptr, Bel_val]; done)))) | refine thenQ_n ?_ | refine thenQ_r ?_ | refine thenQ_e ?_ | refine blockQ_n ?_ | refine blockQ_r ?_ | refine blockQ_e ?_ | (apply blockQ_o; (exact rfl)) | refine Awp.seq ?_ | refine Awp.skip ?_ | refine Awp.block ?_ | refine reg (fun s => false) ?_ | (apply drwE mixed (fun s => false); (kernel_rfl)) | refine fin ?_ | refine Awp.ret ?_ | refine Awp.exit ?_ | ((first | (apply off; (exact rfl)) | apply condF); (first | (focus (simp only [go_sem, ↓reduceIte, simprocAttr, h1, h2, ne_eq, not_false_eq_true] <;> rfl)) | exact rfl)))
      all_goals first | rfl | contradiction | skip

theorem InvV.side {Sl : List Nat} {V : Nat → AV} {kept : Nat → Bool} {T0 : Env} {X : (Nat → Bool) → Hp → Prop} {L : Nat → Bool} {T : Env} {K K' : Hp} (h : InvV Sl V kept T0 X L T K) {k s : Nat} {v : AV} (hk : Sl.getD k 0 = 999) (hs : ∀ j, j < Sl.length → Sl.getD j 0 ≠ 999 → Sl.getD j 0 ≠ s) (hkept : kept s = false) (hX : X (setL L k) K') :
    InvV Sl V kept T0 X (setL L k) (upd T s v) K' := by
  refine ⟨fun t ht => ?_, fun j hj hL => ?_, hX⟩
  · have : t ≠ s := fun e => by rw [e, hkept] at ht; cases ht
    simp only [upd, this, if_false]; exact h.keep t ht
  · have hj' := hj
    unfold okS at hj'
    rw [Bool.and_eq_true, decide_eq_true_eq] at hj'
    have hne := hs j hj'.1 (by simpa using hj'.2)
    have hjk : j ≠ k := fun e => by subst e; rw [hk] at hj'; simp at hj'
    simp only [upd, hne, if_false]
    exact h.tab j hj (by simpa [setL, hjk] using hL)

def V5l (p : Nat) (S : List Ser) (q : Qy) (s : Ser) : Nat → AV
  | 0 => .mptr p 0 0
  | 1 => .mptr p 0 0
  | 2 => .mptr p 0 0
  | 3 => .rsl (sers S) false
  | 4 => .rptr q.cs 3
  | 5 => iv q.series
  | 6 => .rptr s.cs 0
  | 7 => .rptr s.cs 1
  | 8 => .agg [iv s.lo, iv s.hi]
  | 9 => hidF q
  | 10 => .agg [nilS, iv s.lo, iv s.hi, hidF q]
  | _ => nilS
structure I5l (H : Hp) (p : Nat) (S : List Ser) (q : Qy) (s : Ser) (T0 : Env) (L : Nat → Bool) (T : Env) (K : Hp) : Prop where
  v : InvV [54, 55, 56, 57, 58, 59, 60, 61, 62, 63, 64, 999, 999, 999] (V5l p S q s) (fun x => x == 0 || x == 3) T0 (fun _ K => Grow H K) L T K
  a : L 11 = true → ∃ vb, T 65 = .mptr vb 0 0 ∧ H.length ≤ vb ∧ K[vb]? = some (.cells [[nilS, iv s.lo, iv s.hi, hidF q]] 70)
  c : L 12 = true → ∃ cb, T 6 = .mptr cb 0 0 ∧ H.length ≤ cb ∧ ∃ w, K[cb]? = some (.cells [[w]] 65) ∧ (L 13 = false → w = nilP) ∧ (L 13 = true → w = T 65)
  d : L 13 = true → L 11 = true ∧ L 12 = true
theorem I5l.put {H : Hp} {p : Nat} {S : List Ser} {q : Qy} {s : Ser} {T0 : Env} {L : Nat → Bool} {T : Env} {K : Hp} (h : I5l H p S q s T0 L T K) {k : Nat} (hk : k < 11) : I5l H p S q s T0 (setL L k) (upd T (k + 54) (V5l p S q s k)) K := by
  have e1 : ∀ k, k < 11 → [54, 55, 56, 57, 58, 59, 60, 61, 62, 63, 64, 999, 999, 999].getD k 0 = k + 54 := by decide
  have h1 := h.v.put (k := k) (K' := K) (by
    intro j hj hjk h9
    by_cases hj2 : j < 11
    · rw [e1 j hj2, e1 k hk]; omega
    · rw [e1 k hk]
      simp only [List.length_cons, List.length_nil] at hj
      rcases (show j = 11 ∨ j = 12 ∨ j = 13 by omega) with rfl | rfl | rfl <;> exact absurd rfl h9) (by
    rw [e1 k hk]
    have a0 : (k + 54 == 0) = false := by simp
    have a3 : (k + 54 == 3) = false := by simp
    simp [a0, a3]) h.v.ext
  rw [e1 k hk] at h1
  have s11 : setL L k 11 = L 11 := by have : 11 ≠ k := by omega
                                      simp [setL, this]
  have s12 : setL L k 12 = L 12 := by have : 12 ≠ k := by omega
                                      simp [setL, this]
  have s13 : setL L k 13 = L 13 := by have : 13 ≠ k := by omega
                                      simp [setL, this]
  have u65 : upd T (k + 54) (V5l p S q s k) 65 = T 65 := by have : 65 ≠ k + 54 := by omega
                                                            simp [upd, this]
  have u6 : upd T (k + 54) (V5l p S q s k) 6 = T 6 := by have : 6 ≠ k + 54 := by omega
                                                         simp [upd, this]
  refine ⟨h1, ?_, ?_, ?_⟩
  · rw [s11, u65]; exact h.a
  · rw [s12, s13, u65, u6]; exact h.c
  · rw [s11, s12, s13]; exact h.d

set_option maxRecDepth 8000 in
set_option maxHeartbeats 8000000 in
theorem look5 {H : Hp} {p b : Nat} {S : List Ser} {q : Qy} {s : Ser} {T0 : Env} (hp : H[p]? = some (.cells [[.rsl (sers S) false, .mp b]] 58)) (hs : S[q.series.toNat]? = some s) (h0 : 0 ≤ q.series) (t0 : T0 0 = .mptr p 0 0) (t3 : T0 3 = .rptr q.cs 0) :
    Awp Try.prog 101 none (hdD (tlD (tlD (tlD (Try.f23.body.getD .skip))))) T0 H (fun ex T' K => ex = .normal ∧ T' 0 = .mptr p 0 0 ∧ T' 3 = .rptr q.cs 0 ∧ Grow H K ∧ ∃ vb cb, T' 6 = .mptr cb 0 0 ∧ H.length ≤ vb ∧ H.length ≤ cb ∧ K[cb]? = some (.cells [[.mptr vb 0 0]] 65) ∧ K[vb]? = some (.cells [[nilS, iv s.lo, iv s.hi, hidF q]] 70)) := by
  have hsc := sers_at hs
  unfold Try.f23
  simp only [tlD, hdD, Option.getD_some]
  refine Awp.anyInvO mixed (I5l H p S q s T0) (by kernel_rfl) ⟨InvV.start (Grow.refl _), by simp, by simp, by simp⟩ ?_ (fun L T' J hL hI => ⟨rfl, (hI.v.keep 0 rfl).trans t0, (hI.v.keep 3 rfl).trans t3, hI.v.ext, ?_⟩)
  · simp only [AllIx]
    refine ⟨?_, ?_, ?_, ?_, ?_, ?_, ?_, ?_, ?_, ?_, ?_, ?_, ?_, ?_, trivial⟩
    all_goals
      intro L T' J hL hq hI
      simp [Region.binds] at hq
      have q0 := (hI.v.keep 0 rfl).trans t0
      have q3 := (hI.v.keep 3 rfl).trans t3
      have q3' := q3
      have hpJ := hI.v.ext.get hp
      simp only [Qy.cs] at q3'
    · exact OpOK.step (mu := fun _ => false) (by simp only [go_sem, ↓reduceIte, simprocAttr, q0]; first | done | rfl) (hI.put (k := 0) (by decide))
    · have k0 : T' 54 = .mptr p 0 0 := hI.v.tab 0 rfl (by simp [hq])
      exact OpOK.step (mu := fun _ => false) (by simp only [go_sem, ↓reduceIte, simprocAttr, k0]; first | done | rfl) (hI.put (k := 1) (by decide))
    · have k0 : T' 55 = .mptr p 0 0 := hI.v.tab 1 rfl (by simp [hq])
      exact OpOK.step (mu := fun _ => false) (by simp only [go_sem, ↓reduceIte, simprocAttr, k0]; first | done | rfl) (hI.put (k := 2) (by decide))
    · have k0 : T' 56 = .mptr p 0 0 := hI.v.tab 2 rfl (by simp [hq])
      exact OpOK.step (mu := fun _ => false) (by simp only [go_sem, ↓reduceIte, simprocAttr, k0, hpJ]; first | done | rfl) (hI.put (k := 3) (by decide))
    · exact OpOK.step (mu := fun _ => false) (by simp only [go_sem, ↓reduceIte, simprocAttr, q3]; first | done | rfl) (hI.put (k := 4) (by decide))
    · have k0 : T' 58 = .rptr q.cs 3 := hI.v.tab 4 rfl (by simp [hq])
      simp only [Qy.cs] at k0
      exact OpOK.step (mu := fun _ => false) (by simp only [go_sem, ↓reduceIte, simprocAttr, k0]; first | done | rfl) (hI.put (k := 5) (by decide))
    · have k3 : T' 57 = .rsl (sers S) false := hI.v.tab 3 rfl (by simp [hq])
      have k5 : T' 59 = iv q.series := hI.v.tab 5 rfl (by simp [hq])
      exact OpOK.step (mu := fun _ => false) (by simp only [go_sem, ↓reduceIte, simprocAttr, k3, k5, h0, hsc]; first | done | rfl) (hI.put (k := 6) (by decide))
    · have k0 : T' 60 = .rptr s.cs 0 := hI.v.tab 6 rfl (by simp [hq])
      exact OpOK.step (mu := fun _ => false) (by simp only [go_sem, ↓reduceIte, simprocAttr, k0]; first | done | rfl) (hI.put (k := 7) (by decide))
    · have k0 : T' 61 = .rptr s.cs 1 := hI.v.tab 7 rfl (by simp [hq])
      simp only [Ser.cs] at k0
      exact OpOK.step (mu := fun _ => false) (by simp only [go_sem, ↓reduceIte, simprocAttr, k0]; first | done | rfl) (hI.put (k := 8) (by decide))
    · exact OpOK.step (mu := fun _ => false) (by simp only [go_sem, ↓reduceIte, simprocAttr, q3]; first | done | rfl) (hI.put (k := 9) (by decide))
    · have k8 : T' 62 = .agg [iv s.lo, iv s.hi] := hI.v.tab 8 rfl (by simp [hq])
      have k9 : T' 63 = hidF q := hI.v.tab 9 rfl (by simp [hq])
      exact OpOK.step (mu := fun _ => false) (by simp only [go_sem, ↓reduceIte, simprocAttr, k8, k9]; first | done | rfl) (hI.put (k := 10) (by decide))
    · have k0 : T' 64 = .agg [nilS, iv s.lo, iv s.hi, hidF q] := hI.v.tab 10 rfl (by simp [hq])
      have l13 : L 13 = false := by cases e : L 13 with
        | false => rfl
        | true => rw [(hI.d e).1] at hL; exact absurd hL (by decide)
      refine OpOK.step (mu := fun _ => true) (v := .mptr J.length 0 0) (H' := J ++ [.cells [[nilS, iv s.lo, iv s.hi, hidF q]] 70]) (by simp only [go_sem, ↓reduceIte, simprocAttr, k0]; first | done | rfl) ?_
      refine ⟨hI.v.side rfl (by decide) rfl (hI.v.ext.app _), fun _ => ⟨J.length, by simp [putA, upd], hI.v.ext.len, get_new _ _⟩, ?_, ?_⟩
      · intro h
        obtain ⟨cb, c1, c2, w, c3, c4, c5⟩ := hI.c (by simpa [setL] using h)
        refine ⟨cb, by simpa [putA, upd] using c1, c2, w, (held c3).2.1 _, fun _ => c4 l13, fun h => ?_⟩
        have : L 13 = true := by simpa [setL] using h
        rw [l13] at this; cases this
      · intro h
        have : L 13 = true := by simpa [setL] using h
        rw [l13] at this; cases this
    · have l13 : L 13 = false := by cases e : L 13 with
        | false => rfl
        | true => rw [(hI.d e).2] at hL; exact absurd hL (by decide)
      refine OpOK.step (mu := fun _ => true) (v := .mptr J.length 0 0) (H' := J ++ [.cells [[nilP]] 65]) (by simp only [go_sem, ↓reduceIte, simprocAttr]; first | done | rfl) ?_
      refine ⟨hI.v.side rfl (by decide) rfl (hI.v.ext.app _), ?_, fun _ => ⟨J.length, by simp [putA, upd], hI.v.ext.len, nilP, get_new _ _, fun _ => rfl, fun h => ?_⟩, ?_⟩
      · intro h
        obtain ⟨vb, a1, a2, a3⟩ := hI.a (by simpa [setL] using h)
        exact ⟨vb, by simpa [putA, upd] using a1, a2, (held a3).2.1 _⟩
      · have : L 13 = true := by simpa [setL] using h
        rw [l13] at this; cases this
      · intro h
        have : L 13 = true := by simpa [setL] using h
        rw [l13] at this; cases this
    · obtain ⟨vb, a1, a2, a3⟩ := hI.a (by simp [hq])
      obtain ⟨cb, c1, c2, w, c3, c4, _⟩ := hI.c (by simp [hq])
      have hw := c4 hL
      subst hw
      have hne : cb ≠ vb := fun e => by rw [e, a3] at c3; exact absurd (AObj.cells.inj (Option.some.inj c3)).2 (by decide)
      refine OpOK.step (mu := fun _ => true) (v := .val undef) (H' := J.set cb (.cells [[.mptr vb 0 0]] 65)) (by simp only [go_sem, ↓reduceIte, simprocAttr, a1, c1, c3]; first | done | rfl) ?_
      refine ⟨hI.v.non rfl (hI.v.ext.set c2 _), fun _ => ⟨vb, a1, a2, by rw [List.getElem?_set_ne hne]; exact a3⟩, fun _ => ⟨cb, c1, c2, .mptr vb 0 0, (heldS c3).1 _, fun h => by simp [setL] at h, fun _ => a1.symm⟩, fun _ => ⟨by simp [setL, hq], by simp [setL, hq]⟩⟩
  · obtain ⟨vb, a1, a2, a3⟩ := hI.a (hL 11 (by decide))
    obtain ⟨cb, c1, c2, w, c3, _, c5⟩ := hI.c (hL 12 (by decide))
    rw [c5 (hL 13 (by decide)), a1] at c3
    exact ⟨vb, cb, c1, a2, c2, c3, a3⟩

end Go.Proofs.Ytdmgljlabigljaa.Ab
