/- Archive: the entries in order are yielded. -/
import Derived.Test.YtdmgljlabigljaaTM
namespace Go.Proofs.Ytdmgljlabigljaa.Ab
open Go Go.RowKit Go.Proofs
set_option linter.unusedSimpArgs false
set_option linter.unusedVariables false
attribute [local irreducible] Awp wpO thenQ blockQ bodyQ ACalls stepA

def V9o (bk p b : Nat) (e : Ent) : Nat → AV
  | 0 => .fn (.yield bk) []
  | 1 => .mptr p 0 0
  | 2 => .mptr p 0 0
  | 3 => .mptr p 0 1
  | 4 => .mp b
  | 5 => k3A e.key
  | 6 => e.av
  | _ => nilS
def X9o (L : Nat → Bool) (_ : Hp) : Prop := (L 6 = true → L 5 = true ∧ L 4 = true) ∧ (L 4 = true → L 3 = true) ∧ (L 3 = true → L 2 = true) ∧ (L 2 = true → L 1 = true)
def I9o (K0 : Hp) (T0 : Env) (bk p b : Nat) (e : Ent) (P1 P2 : Hp → Prop) (L : Nat → Bool) (T : Env) (K : Hp) : Prop :=
  (L 7 = false ∧ L 8 = false ∧ K = K0 ∧ InvV [28, 29, 30, 31, 32, 33, 34] (V9o bk p b e) (fun s => decide (s < 28)) T0 X9o L T K) ∨
    ((∀ k, k < 8 → L k = true) ∧ (∀ s, s < 28 → T s = T0 s) ∧ ∃ r : Bool, (L 8 = false → T 35 = bv r) ∧ (L 8 = true → T 36 = bv (!r)) ∧ ((r = true ∧ P1 K) ∨ (r = false ∧ P2 K)))

theorem I9o.A {K0 : Hp} {T0 : Env} {bk p b : Nat} {e : Ent} {P1 P2 : Hp → Prop} {L : Nat → Bool} {T : Env} {K : Hp} (h : I9o K0 T0 bk p b e P1 P2 L T K) {k : Nat} (hL : L k = false) (hk : k < 8) :
    L 7 = false ∧ L 8 = false ∧ K = K0 ∧ InvV [28, 29, 30, 31, 32, 33, 34] (V9o bk p b e) (fun s => decide (s < 28)) T0 X9o L T K := by
  rcases h with h | ⟨hB, _⟩
  · exact h
  · rw [hB k hk] at hL; cases hL
theorem I9o.put {K0 : Hp} {T0 : Env} {bk p b : Nat} {e : Ent} {P1 P2 : Hp → Prop} {L : Nat → Bool} {T : Env} (l7 : L 7 = false) (l8 : L 8 = false) (h : InvV [28, 29, 30, 31, 32, 33, 34] (V9o bk p b e) (fun s => decide (s < 28)) T0 X9o L T K0) {k : Nat} (hk : k < 7) (hX : X9o (setL L k) K0) :
    I9o K0 T0 bk p b e P1 P2 (setL L k) (upd T (k + 28) (V9o bk p b e k)) K0 := by
  have e1 : [28, 29, 30, 31, 32, 33, 34].getD k 0 = k + 28 := by
    match k, hk with
    | 0, _ => rfl
    | 1, _ => rfl
    | 2, _ => rfl
    | 3, _ => rfl
    | 4, _ => rfl
    | 5, _ => rfl
    | 6, _ => rfl
  refine .inl ⟨by have : 7 ≠ k := by omega
                  simpa [setL, this] using l7, by have : 8 ≠ k := by omega
                                                  simpa [setL, this] using l8, rfl, ?_⟩
  rw [← e1]
  refine h.put (fun j hj hjk _ => ?_) (by rw [e1]; simp) hX
  have e2 : [28, 29, 30, 31, 32, 33, 34].getD j 0 = j + 28 := by
    simp only [List.length_cons, List.length_nil] at hj
    match j, hj with
    | 0, _ => rfl
    | 1, _ => rfl
    | 2, _ => rfl
    | 3, _ => rfl
    | 4, _ => rfl
    | 5, _ => rfl
    | 6, _ => rfl
  rw [e1, e2]; omega

set_option maxRecDepth 8000 in
set_option maxHeartbeats 8000000 in
theorem order9 {K : Hp} {p b xb bk : Nat} {S : List Ser} {L : List Ent} {e : Ent} {T0 : Env} {P1 P2 : Hp → Prop} (hA : Arc K p b S L) (t0 : T0 0 = .fn (.yield bk) []) (t1 : T0 1 = .rptr [.mptr p 0 0] 0) (t6 : T0 6 = .mptr xb 0 0)
    (hx : K[xb]? = some (.cells [[.val (.int .i64 e.key.1), .val (.int .i64 e.key.2.1), .val (.int .i64 e.key.2.2)]] 77)) (he : findE e.key L = some e)
    (hy : AYield Try.prog bk [e.av] K (fun v1 H1 => (v1 = bv true ∧ P1 H1) ∨ (v1 = bv false ∧ P2 H1))) :
    Awp Try.prog 38 none (hdD (tlD (inD (hdD (tlD (tlD (inD (inD (tlD (tlD (tlD (tlD (Try.f34.body.getD .skip))))))))))))) T0 K (fun ex T' K' => ex = .normal ∧ (∀ s, s < 28 → T' s = T0 s) ∧ ((T' 36 = bv false ∧ P1 K') ∨ (T' 36 = bv true ∧ P2 K'))) := by
  obtain ⟨Tb, hb, hT⟩ := hA.tab
  have hp := hA.hp
  have hlk := hT.look hA.srt e.key
  rw [he] at hlk
  unfold Try.f34
  simp only [tlD, hdD, inD, Option.getD_some]
  refine Awp.anyInvO mixed (I9o K T0 bk p b e P1 P2) (by kernel_rfl) (.inl ⟨rfl, rfl, rfl, InvV.start (by simp [X9o])⟩) ?_ (fun L T' J hL hI => ⟨rfl, ?_⟩)
  · simp only [AllIx]
    refine ⟨?_, ?_, ?_, ?_, ?_, ?_, ?_, ?_, ?_, trivial⟩
    all_goals
      intro L T' J hL hq hI0
      simp [Region.binds] at hq
    · obtain ⟨l7, l8, rfl, hI⟩ := hI0.A hL (by decide)
      have q0 := (hI.keep 0 rfl).trans t0
      have q1 := (hI.keep 1 rfl).trans t1
      have q6 := (hI.keep 6 rfl).trans t6
      exact OpOK.step (mu := fun _ => false) (by simp only [go_sem, ↓reduceIte, simprocAttr, q0]; rfl) (I9o.put (k := 0) l7 l8 hI (by decide) (by have hX := hI.ext; unfold X9o at *; simp_all [setL]))
    · obtain ⟨l7, l8, rfl, hI⟩ := hI0.A hL (by decide)
      have q0 := (hI.keep 0 rfl).trans t0
      have q1 := (hI.keep 1 rfl).trans t1
      have q6 := (hI.keep 6 rfl).trans t6
      exact OpOK.step (mu := fun _ => false) (by simp only [go_sem, ↓reduceIte, simprocAttr, q1]; rfl) (I9o.put (k := 1) l7 l8 hI (by decide) (by have hX := hI.ext; unfold X9o at *; simp_all [setL]))
    · obtain ⟨l7, l8, rfl, hI⟩ := hI0.A hL (by decide)
      have q0 := (hI.keep 0 rfl).trans t0
      have q1 := (hI.keep 1 rfl).trans t1
      have q6 := (hI.keep 6 rfl).trans t6
      have k0 : T' 29 = .mptr p 0 0 := hI.tab 1 rfl (by simp [hq])
      exact OpOK.step (mu := fun _ => false) (by simp only [go_sem, ↓reduceIte, simprocAttr, k0]; rfl) (I9o.put (k := 2) l7 l8 hI (by decide) (by have hX := hI.ext; unfold X9o at *; simp_all [setL]))
    · obtain ⟨l7, l8, rfl, hI⟩ := hI0.A hL (by decide)
      have q0 := (hI.keep 0 rfl).trans t0
      have q1 := (hI.keep 1 rfl).trans t1
      have q6 := (hI.keep 6 rfl).trans t6
      have k0 : T' 30 = .mptr p 0 0 := hI.tab 2 rfl (by simp [hq])
      exact OpOK.step (mu := fun _ => false) (by simp only [go_sem, ↓reduceIte, simprocAttr, k0]; rfl) (I9o.put (k := 3) l7 l8 hI (by decide) (by have hX := hI.ext; unfold X9o at *; simp_all [setL]))
    · obtain ⟨l7, l8, rfl, hI⟩ := hI0.A hL (by decide)
      have q0 := (hI.keep 0 rfl).trans t0
      have q1 := (hI.keep 1 rfl).trans t1
      have q6 := (hI.keep 6 rfl).trans t6
      have k0 : T' 31 = .mptr p 0 1 := hI.tab 3 rfl (by simp [hq])
      exact OpOK.step (mu := fun _ => false) (by simp only [go_sem, ↓reduceIte, simprocAttr, k0, hp]; rfl) (I9o.put (k := 4) l7 l8 hI (by decide) (by have hX := hI.ext; unfold X9o at *; simp_all [setL]))
    · obtain ⟨l7, l8, rfl, hI⟩ := hI0.A hL (by decide)
      have q0 := (hI.keep 0 rfl).trans t0
      have q1 := (hI.keep 1 rfl).trans t1
      have q6 := (hI.keep 6 rfl).trans t6
      exact OpOK.step (mu := fun _ => false) (by simp only [go_sem, ↓reduceIte, simprocAttr, q6, hx]; rfl) (I9o.put (k := 5) l7 l8 hI (by decide) (by have hX := hI.ext; unfold X9o at *; simp_all [setL]))
    · obtain ⟨l7, l8, rfl, hI⟩ := hI0.A hL (by decide)
      have k3 : T' 32 = .mp b := hI.tab 4 rfl (by simp [hq])
      have k5 : T' 33 = k3A e.key := hI.tab 5 rfl (by simp [hq])
      refine OpOK.mono (OpOK.look (ka := k3A) (va := Ent.av) (L := Tb) (k0 := e.key) (b := b) Try.underlying56 z31 key77 k3 k5 (by unfold entsM; rw [hb])) ?_
      rintro v K1 ⟨rfl, rfl⟩
      rw [lookR_ent1, hlk]
      exact I9o.put (k := 6) l7 l8 hI (by decide) (by have hX := hI.ext; unfold X9o at *; simp_all [setL])
    · obtain ⟨l7, l8, rfl, hI⟩ := hI0.A hL (by decide)
      have k0 : T' 28 = .fn (.yield bk) [] := hI.tab 0 rfl (by simp [hq])
      have k6 : T' 34 = e.av := hI.tab 6 rfl (by simp [hq])
      refine OpOK.call rfl (show ACallV Try.prog (evA T' (.tmp 28)) [evA T' (.tmp 34)] J _ from ?_)
      rw [show evA T' (.tmp 28) = _ from k0, show evA T' (.tmp 34) = _ from k6]
      refine ACallV.mono (show ACallV Try.prog (.fn (.yield bk) []) [e.av] J _ from hy) fun v K1 hP => ?_
      have hk : ∀ k, k < 8 → setL L 7 k = true := fun k hk => by
        by_cases e : k = 7
        · simp [setL, e]
        · have : k < 7 := by omega
          have hk : L k = true := by
            obtain ⟨x1, x2, x3, x4⟩ := hI.ext
            have l6 : L 6 = true := hq.2
            have l54 := x1 l6
            have l3 := x2 l54.2
            have l2 := x3 l3
            match k, this with
            | 0, _ => exact hq.1
            | 6, _ => exact l6
            | 1, _ => exact x4 l2
            | 2, _ => exact l2
            | 3, _ => exact l3
            | 4, _ => exact l54.2
            | 5, _ => exact l54.1
          simp [setL, e, hk]
      have hkeep : ∀ s, s < 28 → upd T' 35 v s = T0 s := fun s hs => by
        have : s ≠ 35 := by omega
        simp only [upd, this, if_false]; exact hI.keep s (by simpa using hs)
      rcases hP with ⟨rfl, hP⟩ | ⟨rfl, hP⟩
      · exact .inr ⟨hk, hkeep, true, fun _ => by simp [putA, upd], fun h => by simp [setL, l8] at h, .inl ⟨rfl, hP⟩⟩
      · exact .inr ⟨hk, hkeep, false, fun _ => by simp [putA, upd], fun h => by simp [setL, l8] at h, .inr ⟨rfl, hP⟩⟩
    · rcases hI0 with ⟨l7, _⟩ | ⟨hB, hkp, r, h1, h2, h3⟩
      · rw [l7] at hq; cases hq
      · have k0 := h1 hL
        refine OpOK.step (mu := fun _ => false) (v := bv (!r)) (H' := J) (by simp only [go_sem, ↓reduceIte, simprocAttr, k0]; first | done | rfl) (.inr ⟨fun k hk => ?_, fun s hs => ?_, r, fun h => by simp [setL] at h, fun _ => by simp [putA, upd], h3⟩)
        · have : k ≠ 8 := by omega
          simpa [setL, this] using hB k hk
        · have : s ≠ 36 := by omega
          simp only [putA, upd, this, if_false]; exact hkp s hs
  · rcases hI with ⟨l7, _⟩ | ⟨hB, hkp, r, h1, h2, h3⟩
    · rw [hL 7 (by decide)] at l7; cases l7
    · have k0 := h2 (hL 8 (by decide))
      refine ⟨hkp, ?_⟩
      rcases h3 with ⟨rfl, h3⟩ | ⟨rfl, h3⟩
      · exact .inl ⟨k0, h3⟩
      · exact .inr ⟨k0, h3⟩

/-- a round of a loop over a function; the loop's variables may be laid down anew -/
theorem yieldOf2 {P : Program} {b : Nat} {f : FuncId} {T : Env} {n : Nat} {ps : Array Tmp} {assign body : Code} {D : Nat} {args : List AV} {H1 : Hp}
    (hbk : H1[b]? = some (.loop .ready none f T n ps assign body D)) (hl : args.length = ps.size) (hps : ∀ p ∈ ps.toList, p < n) (Nx Rq : Hp → Prop)
    (h : Awp P n (some b) assign (setPs T (ps.toList.zip args)) H1 (fun e T1 H1' => e = .normal ∧ H1'[b]? = some (.loop .ready none f T n ps assign body D) ∧ Awp P n (some b) body T1 (H1'.set b (.loop .busy none f T n ps assign body D)) (fun e T2 H2 => H2[b]? = some (.loop .busy none f T n ps assign body D) ∧
      match e with | .normal => Nx (H2.set b (.loop .ready none f T n ps assign body D)) | .ret => Rq (H2.set b .dead) | _ => False))) :
    AYield P b args H1 (fun v1 H2 => (v1 = .val (.bool true) ∧ Nx H2 ∧ H2[b]? = some (.loop .ready none f T n ps assign body D)) ∨ (v1 = .val (.bool false) ∧ H2[b]? = some (.loop .done (some .ret) f T n ps assign body D) ∧ Rq (H2.set b .dead))) := by
  refine AYield.of_body hbk hl hps ?_
  refine Awp.mono h fun e T1 H1' ⟨he, hH, hbody⟩ => ?_
  refine ⟨he, none, f, T, n, ps, assign, body, D, hH, ?_⟩
  refine Awp.mono hbody fun e T2 H2 ⟨hb2, hpost⟩ => ?_
  have hlt := (List.getElem?_eq_some_iff.1 hb2).1
  refine ⟨.busy, none, f, T, n, ps, assign, body, D, hb2, ?_⟩
  cases e with
  | normal => exact ⟨_, Vs.refl _ _ _, .inl ⟨rfl, hpost, List.getElem?_set_self hlt⟩⟩
  | ret =>
    refine ⟨_, Vs.refl _ _ _, .inr ⟨rfl, List.getElem?_set_self hlt, ?_⟩⟩
    rw [List.set_set]; exact hpost
  | _ => exact hpost.elim

theorem findE_mem {L : List Ent} (hs : Srt L) {e : Ent} (h : e ∈ L) : findE e.key L = some e := by
  cases hf : findE e.key L with
  | none => exact absurd rfl (findE_none hf e h)
  | some o => obtain ⟨o1, o2⟩ := findE_some hf; rw [hs.uniq o1 h o2]

set_option maxRecDepth 8000 in
set_option maxHeartbeats 8000000 in
theorem orderLoop {p b : Nat} {S : List Ser} {L : List Ent} (bk : Nat) (I : Nat → Hp → Prop) (Stop : Hp → Prop) (hArc : ∀ j H, I j H → Arc H p b S L) (hst : ∀ j H K, I j H → Grow H K → I j K)
    (hy : ∀ (j : Nat) (e : Ent) (H : Hp), L[j]? = some e → I j H → AYield Try.prog bk [e.av] H (fun v1 H1 => (v1 = bv true ∧ I (j + 1) H1) ∨ (v1 = bv false ∧ Stop H1))) (H : Hp) (h0 : I 0 H) (hlen : L.length ≤ 1024) :
    ACalls Try.prog 34 [.fn (.yield bk) [], .rptr [.mptr p 0 0] 0] H fun _ H' => I L.length H' ∨ Stop H' := by
  have hsrt := (hArc 0 H h0).srt
  refine ACalls.of_body Try.func34 rfl (by kernel_rfl) (by rw [Try.ntmps34]; simp) ?_; rw [Try.ntmps34]
  refine order1 (hArc 0 H h0) hlen ?_
  intro T K t0 t1 t3 hG
  have hI0 := hst 0 H K h0 hG
  have hkl : (k3s (L.map Ent.key)).length = L.length := by rw [k3s_len, List.length_map]
  simp only [tlD, Option.getD_some]
  repeat' ((fail_if_success (apply stopR (id := 7))); (fail_if_success (apply stopS (id := 7))); first | refine spD (fun _ => ?_) (fun _ => ?_) | refine spF (fun _ => ?_) (fun _ => ?_) | (apply gT; (exact rfl)) | (apply off; (exact rfl); (exact rfl)) | (apply condT; (exact rfl)) | (apply condF; (exact rfl)) | ((first | (apply stp0; (exact rfl); (exact rfl)) | (apply stpN0; (exact rfl)) | apply gT | apply condT | ((first | apply bodyQ_d0 | apply bodyQ_d1 | apply bodyQ_d2 | apply bodyQ_d3 | apply bodyQ_d4); (exact .inr rfl); (rw [Try.results34]))); (first | (focus (simp only [go_sem, ↓reduceIte, simprocAttr, t3, hkl] <;> rfl)) | exact rfl); (first | (fail_if_success (show okD _ _ _ _ _ _ _ _ _)) | (first | exact okT | exact okN | exact okE rfl)); (first | (fail_if_success (show Bel _ _)) | (focus first | exact .val _ | (simp [oneOf, Bel_iff_tup, Bel_iff_agg, Bel_iff_rsl, Bel_iff_fn, Bel_iff_rptr, Bel_val]; done)))) | refine thenQ_n ?_ | refine thenQ_r ?_ | refine thenQ_e ?_ | refine blockQ_n ?_ | refine blockQ_r ?_ | refine blockQ_e ?_ | (apply blockQ_o; (exact rfl)) | refine Awp.seq ?_ | refine Awp.skip ?_ | refine Awp.block ?_ | refine reg (fun s => s == 4 || s == 6) ?_ | (apply drwE mixed (fun s => s == 4 || s == 6); (kernel_rfl)) | refine fin ?_ | refine Awp.ret ?_ | refine Awp.exit ?_ | ((first | (apply off; (exact rfl)) | apply condF); (first | (focus (simp only [go_sem, ↓reduceIte, simprocAttr, t3, hkl] <;> rfl)) | exact rfl)))
  all_goals first | contradiction | skip
  refine Awp.loop (ι := Nat) (fun i T' K' => i ≤ L.length ∧ (T' 0 = .fn (.yield bk) [] ∧ T' 1 = .rptr [.mptr p 0 0] 0 ∧ T' 22 = .rsl (k3s (L.map Ent.key)) false ∧ T' 23 = iv L.length ∧ T' 24 = iv i) ∧ I i K') (fun i => L.length - i) 0 ?_ ?_
  · exact ⟨Nat.zero_le _, ⟨by (first | (focus (simp only [go_sem, ↓reduceIte, simprocAttr, t0]; first | done | rfl)) | rfl), by (first | (focus (simp only [go_sem, ↓reduceIte, simprocAttr, t1]; first | done | rfl)) | rfl), by (first | (focus (simp only [go_sem, ↓reduceIte, simprocAttr, t3]; first | done | rfl)) | rfl), by (first | (focus (simp only [go_sem, ↓reduceIte, simprocAttr, hkl]; first | done | rfl)) | rfl), by (first | (focus (simp only [go_sem, ↓reduceIte, simprocAttr]; first | done | rfl)) | rfl)⟩, hI0⟩
  clear t0 t1 t3 T hI0 hG K
  rintro i T K ⟨hi, ⟨t0, t1, t22, t23, t24⟩, hI⟩
  by_cases hil : i < L.length
  · obtain ⟨e, he⟩ := nth hil
    have hkc : (k3s (L.map Ent.key))[i]? = some [.val (.int .i64 e.key.1), .val (.int .i64 e.key.2.1), .val (.int .i64 e.key.2.2)] := k3s_at (nthMap Ent.key he)
    have hw := wsucc hil (show L.length ≤ maxLen by simp only [maxLen]; omega)
    have hil2 : (i : Int) < L.length := Int.ofNat_lt.2 hil
    have hi0 : (0 : Int) ≤ i := by omega
    repeat' ((fail_if_success (apply stopR (id := 9))); (fail_if_success (apply stopS (id := 9))); first | refine spD (fun _ => ?_) (fun _ => ?_) | refine spF (fun _ => ?_) (fun _ => ?_) | (apply gT; (exact rfl)) | (apply off; (exact rfl); (exact rfl)) | (apply condT; (exact rfl)) | (apply condF; (exact rfl)) | ((first | (apply stp0; (exact rfl); (exact rfl)) | (apply stpN0; (exact rfl)) | apply gT | apply condT | ((first | apply bodyQ_d0 | apply bodyQ_d1 | apply bodyQ_d2 | apply bodyQ_d3 | apply bodyQ_d4); (exact .inr rfl); (rw [Try.results34]))); (first | (focus (simp only [go_sem, ↓reduceIte, simprocAttr, t22, t23, t24, hkl, hkc, hil2, hi0, Int.toNat_natCast] <;> rfl)) | exact rfl); (first | (fail_if_success (show okD _ _ _ _ _ _ _ _ _)) | (first | exact okT | exact okN | exact okE rfl)); (first | (fail_if_success (show Bel _ _)) | (focus first | exact .val _ | (simp [oneOf, Bel_iff_tup, Bel_iff_agg, Bel_iff_rsl, Bel_iff_fn, Bel_iff_rptr, Bel_val]; done)))) | refine thenQ_n ?_ | refine thenQ_r ?_ | refine thenQ_e ?_ | refine blockQ_n ?_ | refine blockQ_r ?_ | refine blockQ_e ?_ | (apply blockQ_o; (exact rfl)) | refine Awp.seq ?_ | refine Awp.skip ?_ | refine Awp.block ?_ | refine reg (fun s => s == 4 || s == 6) ?_ | (apply drwE mixed (fun s => s == 4 || s == 6); (kernel_rfl)) | refine fin ?_ | refine Awp.ret ?_ | refine Awp.exit ?_ | ((first | (apply off; (exact rfl)) | apply condF); (first | (focus (simp only [go_sem, ↓reduceIte, simprocAttr, t22, t23, t24, hkl, hkc, hil2, hi0, Int.toNat_natCast] <;> rfl)) | exact rfl)))
    all_goals first | contradiction | skip
    have hI1 := hst i K _ hI ((Grow.refl K).app [AObj.cells [[.val (.int .i64 e.key.1), .val (.int .i64 e.key.2.1), .val (.int .i64 e.key.2.2)]] 77])
    have hx := get_new K (AObj.cells [[.val (.int .i64 e.key.1), .val (.int .i64 e.key.2.1), .val (.int .i64 e.key.2.2)]] 77)
    refine Awp.withT (fun T' => T' 0 = .fn (.yield bk) [] ∧ T' 1 = .rptr [.mptr p 0 0] 0 ∧ T' 22 = .rsl (k3s (L.map Ent.key)) false ∧ T' 23 = iv L.length ∧ T' 24 = iv i ∧ T' 6 = .mptr K.length 0 0) ⟨by (first | (focus (simp only [go_sem, ↓reduceIte, simprocAttr, t0]; first | done | rfl)) | rfl), by (first | (focus (simp only [go_sem, ↓reduceIte, simprocAttr, t1]; first | done | rfl)) | rfl), by (first | (focus (simp only [go_sem, ↓reduceIte, simprocAttr, t22]; first | done | rfl)) | rfl), by (first | (focus (simp only [go_sem, ↓reduceIte, simprocAttr, t23]; first | done | rfl)) | rfl), by (first | (focus (simp only [go_sem, ↓reduceIte, simprocAttr, t24]; first | done | rfl)) | rfl), by (first | (focus (simp only [go_sem, ↓reduceIte, simprocAttr]; first | done | rfl)) | rfl)⟩ ?_
    clear t0 t1 t22 t23 t24 T
    rintro T ⟨t0, t1, t22, t23, t24, t6⟩
    generalize K ++ [AObj.cells [[.val (.int .i64 e.key.1), .val (.int .i64 e.key.2.1), .val (.int .i64 e.key.2.2)]] 77] = K1 at *
    generalize K.length = xb at *
    refine Awp.seq ?_
    refine Awp.mono (order9 (hArc i K1 hI1) t0 t1 t6 hx (findE_mem hsrt (List.mem_of_getElem? he)) (hy i e K1 he hI1)) ?_
    rintro ex T2 K2 ⟨rfl, hkp, h⟩
    refine thenQ_n ?_
    have u0 := (hkp 0 (by decide)).trans t0
    have u1 := (hkp 1 (by decide)).trans t1
    have u22 := (hkp 22 (by decide)).trans t22
    have u23 := (hkp 23 (by decide)).trans t23
    have u24 := (hkp 24 (by decide)).trans t24
    rcases h with ⟨t36, hI2⟩ | ⟨t36, hS⟩
    · repeat' (first | refine spD (fun _ => ?_) (fun _ => ?_) | refine spF (fun _ => ?_) (fun _ => ?_) | (apply gT; (exact rfl)) | (apply off; (exact rfl); (exact rfl)) | (apply condT; (exact rfl)) | (apply condF; (exact rfl)) | ((first | (apply stp0; (exact rfl); (exact rfl)) | (apply stpN0; (exact rfl)) | apply gT | apply condT | ((first | apply bodyQ_d0 | apply bodyQ_d1 | apply bodyQ_d2 | apply bodyQ_d3 | apply bodyQ_d4); (exact .inr rfl); (rw [Try.results34]))); (first | (focus (simp only [go_sem, ↓reduceIte, simprocAttr, t36, u24, hw] <;> rfl)) | exact rfl); (first | (fail_if_success (show okD _ _ _ _ _ _ _ _ _)) | (first | exact okT | exact okN | exact okE rfl)); (first | (fail_if_success (show Bel _ _)) | (focus first | exact .val _ | (simp [oneOf, Bel_iff_tup, Bel_iff_agg, Bel_iff_rsl, Bel_iff_fn, Bel_iff_rptr, Bel_val]; done)))) | refine thenQ_n ?_ | refine thenQ_r ?_ | refine thenQ_e ?_ | refine blockQ_n ?_ | refine blockQ_r ?_ | refine blockQ_e ?_ | (apply blockQ_o; (exact rfl)) | refine Awp.seq ?_ | refine Awp.skip ?_ | refine Awp.block ?_ | refine reg (fun s => s == 4 || s == 6) ?_ | (apply drwE mixed (fun s => s == 4 || s == 6); (kernel_rfl)) | refine fin ?_ | refine Awp.ret ?_ | refine Awp.exit ?_ | ((first | (apply off; (exact rfl)) | apply condF); (first | (focus (simp only [go_sem, ↓reduceIte, simprocAttr, t36, u24, hw] <;> rfl)) | exact rfl)))
      all_goals first | contradiction | skip
      exact ⟨i + 1, ⟨hil, ⟨by (first | (focus (simp only [go_sem, ↓reduceIte, simprocAttr, u0]; first | done | rfl)) | rfl), by (first | (focus (simp only [go_sem, ↓reduceIte, simprocAttr, u1]; first | done | rfl)) | rfl), by (first | (focus (simp only [go_sem, ↓reduceIte, simprocAttr, u22]; first | done | rfl)) | rfl), by (first | (focus (simp only [go_sem, ↓reduceIte, simprocAttr, u23]; first | done | rfl)) | rfl), by (first | (focus (simp only [go_sem, ↓reduceIte, simprocAttr, hw]; first | done | rfl)) | rfl)⟩, hI2⟩, Nat.sub_lt_sub_left hil (Nat.lt_succ_self i)⟩
    · repeat' (first | refine spD (fun _ => ?_) (fun _ => ?_) | refine spF (fun _ => ?_) (fun _ => ?_) | (apply gT; (exact rfl)) | (apply off; (exact rfl); (exact rfl)) | (apply condT; (exact rfl)) | (apply condF; (exact rfl)) | ((first | (apply stp0; (exact rfl); (exact rfl)) | (apply stpN0; (exact rfl)) | apply gT | apply condT); (first | (focus (simp only [go_sem, ↓reduceIte, simprocAttr, t36] <;> rfl)) | exact rfl); (first | (fail_if_success (show okD _ _ _ _ _ _ _ _ _)) | (first | exact okT | exact okN | exact okE rfl))) | refine thenQ_n ?_ | refine thenQ_r ?_ | refine thenQ_e ?_ | refine blockQ_n ?_ | refine blockQ_r ?_ | refine blockQ_e ?_ | (apply blockQ_o; (exact rfl)) | refine Awp.seq ?_ | refine Awp.skip ?_ | refine Awp.block ?_ | refine reg (fun s => s == 4 || s == 6) ?_ | (apply drwE mixed (fun s => s == 4 || s == 6); (kernel_rfl)) | refine fin ?_ | refine Awp.ret ?_ | refine Awp.exit ?_ | ((first | (apply off; (exact rfl)) | apply condF); (first | (focus (simp only [go_sem, ↓reduceIte, simprocAttr, t36] <;> rfl)) | exact rfl)))
      all_goals first | contradiction | skip
      exact bodyQ_eq (.inr rfl) (by rw [Try.results34]; simp only [go_sem, ↓reduceIte, simprocAttr]; rfl) (.inr hS)
  · have e : i = L.length := by omega
    subst e
    repeat' (first | refine spD (fun _ => ?_) (fun _ => ?_) | refine spF (fun _ => ?_) (fun _ => ?_) | (apply gT; (exact rfl)) | (apply off; (exact rfl); (exact rfl)) | (apply condT; (exact rfl)) | (apply condF; (exact rfl)) | ((first | (apply stp0; (exact rfl); (exact rfl)) | (apply stpN0; (exact rfl)) | apply gT | apply condT); (first | (focus (simp only [go_sem, ↓reduceIte, simprocAttr, Int.lt_irrefl, t23, t24] <;> rfl)) | exact rfl); (first | (fail_if_success (show okD _ _ _ _ _ _ _ _ _)) | (first | exact okT | exact okN | exact okE rfl))) | refine thenQ_n ?_ | refine thenQ_r ?_ | refine thenQ_e ?_ | refine blockQ_n ?_ | refine blockQ_r ?_ | refine blockQ_e ?_ | (apply blockQ_o; (exact rfl)) | refine Awp.seq ?_ | refine Awp.skip ?_ | refine Awp.block ?_ | refine reg (fun s => s == 4 || s == 6) ?_ | (apply drwE mixed (fun s => s == 4 || s == 6); (kernel_rfl)) | refine fin ?_ | refine Awp.ret ?_ | refine Awp.exit ?_ | ((first | (apply off; (exact rfl)) | apply condF); (first | (focus (simp only [go_sem, ↓reduceIte, simprocAttr, Int.lt_irrefl, t23, t24] <;> rfl)) | exact rfl)))
    all_goals first | contradiction | skip
    exact bodyQ_eq (.inl rfl) (by rw [Try.results34]; simp only [go_sem, ↓reduceIte, simprocAttr]; rfl) (.inl hI)

/-- for x := range a.inOrder() -/
theorem overOrder {p b : Nat} {S : List Ser} {L : List Ent} {n : Nat} {T : Env} {Q : Exit → Env → Hp → Prop} {gop : Operand} {x : Nat} {assign body : Code} {A : Hp} (hlen : L.length ≤ 1024)
    (hT : evA T gop = .fn (.func 34) [.rptr [.mptr p 0 0] 0]) (hx : x < n) (I : Nat → Hp → Prop) (Rq : Hp → Prop) (hArc : ∀ j H, I j H → Arc H p b S L) (hst : ∀ j H K, I j H → Grow H K → I j K)
    (h0 : ∀ ob, I 0 (A ++ [ob]))
    (hb : ∀ (lp : LoopState → AObj) (j : Nat) (e : Ent) (H1 : Hp), L[j]? = some e → I j H1 → H1[A.length]? = some (lp .ready) →
      Awp Try.prog n (some A.length) assign (upd T x e.av) H1 (fun ex T1 H1' => ex = .normal ∧ H1'[A.length]? = some (lp .ready) ∧ Awp Try.prog n (some A.length) body T1 (H1'.set A.length (lp .busy)) (fun ex T2 H2 => H2[A.length]? = some (lp .busy) ∧
        match ex with | .normal => I (j + 1) (H2.set A.length (lp .ready)) | .ret => Rq (H2.set A.length .dead) | _ => False)))
    (hn : ∀ H1 ob, I L.length H1 → H1[A.length]? = some ob → Q .normal T (H1.set A.length .dead))
    (hr : ∀ H1, Rq H1 → Q .ret T H1) :
    Awp Try.prog n none (.rangeFunc gop #[x] assign body) T A Q := by
  refine Awp.range (k := 34) (cap := [.rptr [.mptr p 0 0] 0]) hT fun fid D => ?_
  have fin : ∀ H', ((I L.length H' ∧ H'[A.length]? = some (.loop .ready none fid T n #[x] assign body D)) ∨ (H'[A.length]? = some (.loop .done (some .ret) fid T n #[x] assign body D) ∧ Rq (H'.set A.length .dead))) → rangeQ Try.prog n none T A.length Q (.val undef) H' := by
    rintro H' (⟨h1, h2⟩ | ⟨h1, h2⟩)
    · exact ⟨.ready, none, fid, T, n, _, _, _, D, h2, by simp, hn H' _ h1 h2⟩
    · exact ⟨.done, some .ret, fid, T, n, _, _, _, D, h1, by simp, Awp.ret (hr _ h2)⟩
  refine ACalls.mono (orderLoop A.length (fun j H' => I j H' ∧ H'[A.length]? = some (.loop .ready none fid T n #[x] assign body D))
    (fun H' => H'[A.length]? = some (.loop .done (some .ret) fid T n #[x] assign body D) ∧ Rq (H'.set A.length .dead)) (fun j H' h => hArc j H' h.1) (fun j H' K h hG => ⟨hst j H' K h.1 hG, hG.get h.2⟩) ?_ _ ⟨h0 _, get_new _ _⟩ hlen) fun v1 H' h => fin H' h
  rintro j e H1 he ⟨hI, hlp⟩
  exact yieldOf2 hlp rfl (by simp; exact hx) (I (j + 1)) Rq (hb (fun st => .loop st none fid T n #[x] assign body D) j e H1 he hI hlp)

end Go.Proofs.Ytdmgljlabigljaa.Ab
