/- Archive: Add. -/
import Derived.Test.YtdmgljlabigljaaTH
namespace Go.Proofs.Ytdmgljlabigljaa.Ab
open Go Go.RowKit Go.Proofs
set_option linter.unusedSimpArgs false
set_option linter.unusedVariables false
attribute [local irreducible] Awp wpO thenQ blockQ bodyQ ACalls stepA

def tlD : Code → Code
  | .seq _ y => y
  | c => c
def hdD : Code → Code
  | .seq x _ => x
  | c => c
def inD : Code → Code
  | .block _ c => c
  | .loop c => c
  | c => c

def zeroE : Ent := ⟨0, 0, 0, 0, 0, 0, 0, 0, ⟨#[]⟩⟩
def oldE (r : Option Ent) : Ent := r.getD zeroE
theorem lookR_ent (r : Option Ent) : lookR Ent.av (.agg #[.int .i64 0, .int .i64 0, .int .i64 0, .int .i64 0, .int .i64 0, .int .i64 0, .int .i64 0, .int .i64 0, .string ⟨#[]⟩]) true r = .tup [(oldE r).av, bv r.isSome] := by
  cases r with
  | some e => rfl
  | none => rfl
theorem lookR_ent1 (r : Option Ent) : lookR Ent.av (.agg #[.int .i64 0, .int .i64 0, .int .i64 0, .int .i64 0, .int .i64 0, .int .i64 0, .int .i64 0, .int .i64 0, .string ⟨#[]⟩]) false r = (oldE r).av := by
  cases r with
  | some e => rfl
  | none => rfl

theorem z31 : zeroV Try.prog 31 = some (.agg #[.int .i64 0, .int .i64 0, .int .i64 0, .int .i64 0, .int .i64 0, .int .i64 0, .int .i64 0, .int .i64 0, .string ⟨#[]⟩]) := by kernel_rfl

def V5 (p b n : Nat) (e o : Ent) (ok : Bool) : Nat → AV
  | 0 => .mptr p 0 0
  | 1 => .mptr p 0 0
  | 2 => .mptr p 0 1
  | 3 => .mp b
  | 4 => e.av
  | 5 => k3A e.key
  | 6 => .tup [o.av, bv ok]
  | 7 => .tup [o.av, bv ok]
  | 8 => o.av
  | 9 => bv ok
  | 10 => .mptr n 0 0
  | 12 => bv ok
  | _ => nilS
def X5 (H : Hp) (o : Ent) (L : Nat → Bool) (K : Hp) : Prop := (L 10 = false ∧ L 11 = false ∧ K = H) ∨ (L 10 = true ∧ L 11 = false ∧ K = H ++ [.cells [zeroE.cs] 31]) ∨ (L 10 = true ∧ L 11 = true ∧ K = H ++ [.cells [o.cs] 31])
theorem X5.same {H : Hp} {o : Ent} {L : Nat → Bool} {K : Hp} (h : X5 H o L K) {k : Nat} (h1 : k ≠ 10) (h2 : k ≠ 11) : X5 H o (setL L k) K := by
  unfold X5 at *
  have e1 : setL L k 10 = L 10 := by simp [setL, Ne.symm h1]
  have e2 : setL L k 11 = L 11 := by simp [setL, Ne.symm h2]
  rw [e1, e2]; exact h
theorem X5.old {H : Hp} {o : Ent} {L : Nat → Bool} {K : Hp} (h : X5 H o L K) {j : Nat} {ob : AObj} (hj : H[j]? = some ob) : K[j]? = some ob := by
  rcases h with ⟨_, _, rfl⟩ | ⟨_, _, rfl⟩ | ⟨_, _, rfl⟩
  · exact hj
  · exact (held hj).2.1 _
  · exact (held hj).2.1 _

set_option maxRecDepth 8000 in
set_option maxHeartbeats 8000000 in
theorem add5 {H : Hp} {p b : Nat} {S : List Ser} {e : Ent} {T : List (K3 × Ent)} {T0 : Env} (hp : H[p]? = some (.cells [[.rsl (sers S) false, .mp b]] 58)) (hb : H[b]? = some (.amap (tabA k3A Ent.av T))) (t0 : T0 0 = .mptr p 0 0) (t3 : T0 3 = .rptr e.cs 0) :
    Awp Try.prog 47 none (hdD (tlD (tlD (tlD (Try.f16.body.getD .skip))))) T0 H (fun ex T' K => ex = .normal ∧ T' 0 = .mptr p 0 0 ∧ T' 3 = .rptr e.cs 0 ∧ T' 5 = .mptr H.length 0 0 ∧ T' 6 = bv (lookK e.key T).isSome ∧ K = H ++ [.cells [(oldE (lookK e.key T)).cs] 31]) := by
  unfold Try.f16
  simp only [tlD, hdD, Option.getD_some]
  refine Awp.anyInvO mixed (InvV [15, 16, 17, 18, 19, 20, 21, 14, 22, 23, 5, 999, 6] (V5 p b H.length e (oldE (lookK e.key T)) (lookK e.key T).isSome) (fun s => s == 0 || s == 3) T0 (X5 H (oldE (lookK e.key T)))) (by kernel_rfl) (InvV.start (.inl ⟨rfl, rfl, rfl⟩)) ?_ (fun L T' J hL hI => ⟨rfl, ?_, ?_, ?_, ?_, ?_⟩)
  · simp only [AllIx]
    refine ⟨?_, ?_, ?_, ?_, ?_, ?_, ?_, ?_, ?_, ?_, ?_, ?_, ?_, trivial⟩
    all_goals
      intro L T' J hL hq hI
      simp [Region.binds] at hq
      have q0 := (hI.keep 0 rfl).trans t0
      have q3 := (hI.keep 3 rfl).trans t3
      have hpJ := hI.ext.old hp
      have hbJ := hI.ext.old hb
      simp only [Ent.cs] at q3
    · exact OpOK.step (mu := fun _ => false) (by simp only [go_sem, ↓reduceIte, simprocAttr, q0]; rfl) (hI.put (k := 0) (by decide) rfl (hI.ext.same (by decide) (by decide)))
    · have k0 : T' 15 = .mptr p 0 0 := hI.tab 0 rfl (by simp [hq])
      exact OpOK.step (mu := fun _ => false) (by simp only [go_sem, ↓reduceIte, simprocAttr, k0]; rfl) (hI.put (k := 1) (by decide) rfl (hI.ext.same (by decide) (by decide)))
    · have k0 : T' 16 = .mptr p 0 0 := hI.tab 1 rfl (by simp [hq])
      exact OpOK.step (mu := fun _ => false) (by simp only [go_sem, ↓reduceIte, simprocAttr, k0]; rfl) (hI.put (k := 2) (by decide) rfl (hI.ext.same (by decide) (by decide)))
    · have k0 : T' 17 = .mptr p 0 1 := hI.tab 2 rfl (by simp [hq])
      exact OpOK.step (mu := fun _ => false) (by simp only [go_sem, ↓reduceIte, simprocAttr, k0, hpJ]; rfl) (hI.put (k := 3) (by decide) rfl (hI.ext.same (by decide) (by decide)))
    · exact OpOK.step (mu := fun _ => false) (by simp only [go_sem, ↓reduceIte, simprocAttr, q3]; rfl) (hI.put (k := 4) (by decide) rfl (hI.ext.same (by decide) (by decide)))
    · have k0 : T' 19 = e.av := hI.tab 4 rfl (by simp [hq])
      refine OpOK.call rfl (show ACallV Try.prog (evA T' (.func 29)) [evA T' (.tmp 19)] J _ from ?_)
      rw [show evA T' (.tmp 19) = _ from k0]
      refine ACallV.mono (show ACallV Try.prog (.fn (.func 29) []) _ J _ from keyOf_ok J e) fun v K1 hA => ?_
      obtain ⟨rfl, rfl⟩ := hA
      exact hI.put (k := 5) (by decide) rfl (hI.ext.same (by decide) (by decide))
    · have k3 : T' 18 = .mp b := hI.tab 3 rfl (by simp [hq])
      have k5 : T' 20 = k3A e.key := hI.tab 5 rfl (by simp [hq])
      refine OpOK.mono (OpOK.look (ka := k3A) (va := Ent.av) (L := T) (k0 := e.key) (b := b) Try.underlying56 z31 key77 k3 k5 (by unfold entsM; rw [hbJ])) ?_
      rintro v K1 ⟨rfl, rfl⟩
      rw [lookR_ent]
      exact hI.put (k := 6) (by decide) rfl (hI.ext.same (by decide) (by decide))
    · have k0 : T' 21 = .tup [(oldE (lookK e.key T)).av, bv (lookK e.key T).isSome] := hI.tab 6 rfl (by simp [hq])
      exact OpOK.step (mu := fun _ => false) (by simp only [go_sem, ↓reduceIte, simprocAttr, k0]; rfl) (hI.put (k := 7) (by decide) rfl (hI.ext.same (by decide) (by decide)))
    · have k0 : T' 14 = .tup [(oldE (lookK e.key T)).av, bv (lookK e.key T).isSome] := hI.tab 7 rfl (by simp [hq])
      exact OpOK.step (mu := fun _ => false) (by simp only [go_sem, ↓reduceIte, simprocAttr, k0]; rfl) (hI.put (k := 8) (by decide) rfl (hI.ext.same (by decide) (by decide)))
    · have k0 : T' 14 = .tup [(oldE (lookK e.key T)).av, bv (lookK e.key T).isSome] := hI.tab 7 rfl (by simp [hq])
      exact OpOK.step (mu := fun _ => false) (by simp only [go_sem, ↓reduceIte, simprocAttr, k0]; rfl) (hI.put (k := 9) (by decide) rfl (hI.ext.same (by decide) (by decide)))
    · obtain ⟨a1, a2, a3⟩ : L 10 = false ∧ L 11 = false ∧ J = H := by
        rcases hI.ext with h | ⟨h, _⟩ | ⟨h, _⟩
        · exact h
        · rw [hL] at h; cases h
        · rw [hL] at h; cases h
      subst a3
      refine OpOK.step (mu := fun _ => true) (v := .mptr J.length 0 0) (H' := J ++ [.cells [zeroE.cs] 31]) (by simp only [go_sem, ↓reduceIte, simprocAttr]; rfl) (hI.put (k := 10) (by decide) rfl (.inr (.inl ⟨by simp [setL], by simpa [setL] using a2, rfl⟩)))
    · have k8 : T' 22 = (oldE (lookK e.key T)).av := hI.tab 8 rfl (by simp [hq])
      have k10 : T' 5 = .mptr H.length 0 0 := hI.tab 10 rfl (by simp [hq])
      have a3 : J = H ++ [.cells [zeroE.cs] 31] := by
        rcases hI.ext with ⟨h, _⟩ | ⟨_, _, h⟩ | ⟨_, h, _⟩
        · simp [hq] at h
        · exact h
        · rw [hL] at h; cases h
      have hg := get_new H (AObj.cells [zeroE.cs] 31)
      subst a3
      simp only [Ent.av, Ent.cs] at k8
      refine OpOK.step (mu := fun _ => true) (v := .val undef) (H' := (H ++ [AObj.cells [zeroE.cs] 31]).set H.length (.cells [(oldE (lookK e.key T)).cs] 31)) (by simp only [zeroE, Ent.cs] at hg ⊢; simp only [go_sem, ↓reduceIte, simprocAttr, k8, k10, hg]; first | done | rfl) (hI.non rfl (.inr (.inr ⟨by simp [setL, hq], by simp [setL], by simp⟩)))
    · have k0 : T' 23 = bv (lookK e.key T).isSome := hI.tab 9 rfl (by simp [hq])
      exact OpOK.step (mu := fun _ => false) (by simp only [go_sem, ↓reduceIte, simprocAttr, k0]; rfl) (hI.put (k := 12) (by decide) rfl (hI.ext.same (by decide) (by decide)))
  · exact (hI.keep 0 rfl).trans t0
  · exact (hI.keep 3 rfl).trans t3
  · exact hI.tab 10 rfl (hL 10 (by decide))
  · exact hI.tab 12 rfl (hL 12 (by decide))
  · rcases hI.ext with ⟨h, _⟩ | ⟨_, h, _⟩ | ⟨_, _, h⟩
    · rw [hL 10 (by decide)] at h; cases h
    · rw [hL 11 (by decide)] at h; cases h
    · exact h

def V12 (p b : Nat) (e : Ent) : Nat → AV
  | 0 => .mptr p 0 0
  | 1 => .mptr p 0 0
  | 2 => .mptr p 0 1
  | 3 => .mp b
  | 4 => e.av
  | 5 => k3A e.key
  | 6 => e.av
  | _ => nilS
def X12 (H H' : Hp) (L : Nat → Bool) (K : Hp) : Prop := (L 7 = false ∧ K = H) ∨ (L 7 = true ∧ K = H')
theorem X12.same {H H' : Hp} {L : Nat → Bool} {K : Hp} (h : X12 H H' L K) {k : Nat} (h1 : k ≠ 7) : X12 H H' (setL L k) K := by
  unfold X12 at *
  have e1 : setL L k 7 = L 7 := by simp [setL, Ne.symm h1]
  rw [e1]; exact h

set_option maxRecDepth 8000 in
set_option maxHeartbeats 8000000 in
theorem add12 {H : Hp} {p b : Nat} {S : List Ser} {e : Ent} {T : List (K3 × Ent)} {T0 : Env} (hp : H[p]? = some (.cells [[.rsl (sers S) false, .mp b]] 58)) (hb : H[b]? = some (.amap (tabA k3A Ent.av T))) (t0 : T0 0 = .mptr p 0 0) (t3 : T0 3 = .rptr e.cs 0) :
    Awp Try.prog 47 none (hdD (tlD (tlD (tlD (tlD (tlD (Try.f16.body.getD .skip))))))) T0 H (fun ex T' K => ex = .normal ∧ K = H.set b (.amap (tabA k3A Ent.av (updK e.key e T)))) := by
  have hne : b ≠ p := fun e => by rw [e, hp] at hb; cases hb
  unfold Try.f16
  simp only [tlD, hdD, Option.getD_some]
  refine Awp.anyInvO mixed (InvV [40, 41, 42, 43, 44, 45, 46, 999] (V12 p b e) (fun s => s == 0 || s == 3) T0 (X12 H (H.set b (.amap (tabA k3A Ent.av (updK e.key e T)))))) (by kernel_rfl) (InvV.start (.inl ⟨rfl, rfl⟩)) ?_ (fun L T' J hL hI => ⟨rfl, ?_⟩)
  · simp only [AllIx]
    refine ⟨?_, ?_, ?_, ?_, ?_, ?_, ?_, ?_, trivial⟩
    all_goals
      intro L T' J hL hq hI
      simp [Region.binds] at hq
      have q0 := (hI.keep 0 rfl).trans t0
      have q3 := (hI.keep 3 rfl).trans t3
      have hpJ : J[p]? = some (.cells [[.rsl (sers S) false, .mp b]] 58) := by
        rcases hI.ext with ⟨_, h⟩ | ⟨_, h⟩
        · rw [h]; exact hp
        · rw [h, List.getElem?_set_ne hne]; exact hp
      simp only [Ent.cs] at q3
    · exact OpOK.step (mu := fun _ => false) (by simp only [go_sem, ↓reduceIte, simprocAttr, q0]; rfl) (hI.put (k := 0) (by decide) rfl (hI.ext.same (by decide)))
    · have k0 : T' 40 = .mptr p 0 0 := hI.tab 0 rfl (by simp [hq])
      exact OpOK.step (mu := fun _ => false) (by simp only [go_sem, ↓reduceIte, simprocAttr, k0]; rfl) (hI.put (k := 1) (by decide) rfl (hI.ext.same (by decide)))
    · have k0 : T' 41 = .mptr p 0 0 := hI.tab 1 rfl (by simp [hq])
      exact OpOK.step (mu := fun _ => false) (by simp only [go_sem, ↓reduceIte, simprocAttr, k0]; rfl) (hI.put (k := 2) (by decide) rfl (hI.ext.same (by decide)))
    · have k0 : T' 42 = .mptr p 0 1 := hI.tab 2 rfl (by simp [hq])
      exact OpOK.step (mu := fun _ => false) (by simp only [go_sem, ↓reduceIte, simprocAttr, k0, hpJ]; rfl) (hI.put (k := 3) (by decide) rfl (hI.ext.same (by decide)))
    · exact OpOK.step (mu := fun _ => false) (by simp only [go_sem, ↓reduceIte, simprocAttr, q3]; rfl) (hI.put (k := 4) (by decide) rfl (hI.ext.same (by decide)))
    · have k0 : T' 44 = e.av := hI.tab 4 rfl (by simp [hq])
      refine OpOK.call rfl (show ACallV Try.prog (evA T' (.func 29)) [evA T' (.tmp 44)] J _ from ?_)
      rw [show evA T' (.tmp 44) = _ from k0]
      refine ACallV.mono (show ACallV Try.prog (.fn (.func 29) []) _ J _ from keyOf_ok J e) fun v K1 hA => ?_
      obtain ⟨rfl, rfl⟩ := hA
      exact hI.put (k := 5) (by decide) rfl (hI.ext.same (by decide))
    · exact OpOK.step (mu := fun _ => false) (by simp only [go_sem, ↓reduceIte, simprocAttr, q3]; rfl) (hI.put (k := 6) (by decide) rfl (hI.ext.same (by decide)))
    · have k3 : T' 43 = .mp b := hI.tab 3 rfl (by simp [hq])
      have k5 : T' 45 = k3A e.key := hI.tab 5 rfl (by simp [hq])
      have k6 : T' 46 = e.av := hI.tab 6 rfl (by simp [hq])
      have a3 : J = H := by
        rcases hI.ext with ⟨_, h⟩ | ⟨h, _⟩
        · exact h
        · rw [hL] at h; cases h
      subst a3
      refine OpOK.mono (OpOK.update (ka := k3A) (va := Ent.av) (L := T) (k0 := e.key) (e0 := e) (b := b) Try.underlying56 key77 k3 k5 k6 hb) ?_
      rintro v K1 ⟨rfl, rfl⟩
      exact hI.non rfl (.inr ⟨by simp [setL], rfl⟩)
  · rcases hI.ext with ⟨h, _⟩ | ⟨_, h⟩
    · rw [hL 7 (by decide)] at h; cases h
    · exact h

def AddP (H : Hp) (p b : Nat) (S : List Ser) (L : List Ent) (e : Ent) (v : AV) (K : Hp) : Prop :=
  v = iv (addC S L e) ∧ Arc K p b S (addL S L e) ∧ H.length ≤ K.length ∧ ∀ j, j < H.length → j ≠ b → K[j]? = H[j]?

set_option maxRecDepth 8000 in
set_option maxHeartbeats 8000000 in
theorem Add_ok (H : Hp) {p b : Nat} {S : List Ser} {L : List Ent} (hA : Arc H p b S L) (e : Ent) : ACalls Try.prog 16 [.mptr p 0 0, .agg e.cs] H (AddP H p b S L e) := by
  obtain ⟨T, hb, hT⟩ := hA.tab
  have hp := hA.hp
  have hlk := hT.look hA.srt e.key
  have hV := fun H (hp : H[p]? = some (.cells [[.rsl (sers S) false, .mp b]] 58)) => valid_ok H hp
  have hacc := fun H (hp : H[p]? = some (.cells [[.rsl (sers S) false, .mp b]] 58)) => accepts_ok H hp e
  have finA : ∀ K, addL S L e = L → Grow H K → ∀ c, addC S L e = c → AddP H p b S L e (iv c) K := fun K h1 h2 c hc => ⟨by rw [hc], by rw [h1]; exact hA.grow h2, h2.len, fun j hj _ => h2.old j hj⟩
  cases ha : accB S e with
  | false =>
    have e1 : addC S L e = 2 := by unfold addC; rw [ha]; rfl
    have e2 : addL S L e = L := by unfold addL; rw [ha]; rfl
    have h1 := hV H hp
    have h2 := hacc H hp
    rw [ha] at h2
    simp only [Ent.cs] at h2 ⊢
    refine ACalls.of_body Try.func16 rfl (by kernel_rfl) (by rw [Try.ntmps16]; simp) ?_; rw [Try.ntmps16]
    repeat' (first | refine spD (fun _ => ?_) (fun _ => ?_) | refine spF (fun _ => ?_) (fun _ => ?_) | (apply gT; (exact rfl)) | (apply off; (exact rfl); (exact rfl)) | (apply condT; (exact rfl)) | (apply condF; (exact rfl)) | ((first | (apply stp0; (exact rfl); (exact rfl)) | (apply stpN0; (exact rfl)) | apply gT | apply condT); (first | (focus (simp only [go_sem, ↓reduceIte, simprocAttr, hp] <;> rfl)) | exact rfl); (first | (fail_if_success (show okD _ _ _ _ _ _ _ _ _)) | (first | exact okT | exact okN | exact okE rfl))) | (apply calTo0; (exact rfl); (iterate 2 (simp only [go_sem, ↓reduceIte, simprocAttr, hp]; rfl)); (first | exact h1 | exact h2); (first | exact okT | exact okN | exact okE rfl)) | refine thenQ_n ?_ | refine thenQ_r ?_ | refine thenQ_e ?_ | refine blockQ_n ?_ | refine blockQ_r ?_ | refine blockQ_e ?_ | (apply blockQ_o; (exact rfl)) | refine Awp.seq ?_ | refine Awp.skip ?_ | refine Awp.block ?_ | refine reg (fun s => s == 5) ?_ | (apply drwE mixed (fun s => s == 5); (kernel_rfl)) | refine fin ?_ | refine Awp.ret ?_ | refine Awp.exit ?_ | ((first | (apply off; (exact rfl)) | apply condF); (first | (focus (simp only [go_sem, ↓reduceIte, simprocAttr, hp] <;> rfl)) | exact rfl)))
    all_goals first | contradiction | skip
    exact bodyQ_mk (vs := [iv 2]) (.inr rfl) (by rw [Try.results16]; first | (simp only [go_sem, ↓reduceIte, simprocAttr]; done) | (simp only [go_sem, ↓reduceIte, simprocAttr]; rfl)) (Vs.refl _ _ _) (finA _ e2 (Grow.refl _) 2 e1)
  | true =>
    have h1 := hV H hp
    have h2 := hacc H hp
    rw [ha] at h2
    have ec : addC S L e = match findE e.key L with
      | some o => if o = e then 0 else 12
      | none => if L.length = 1024 then 11 else 0 := by unfold addC; rw [ha]; rfl
    have el : addL S L e = match findE e.key L with
      | some _ => L
      | none => if L.length = 1024 then L else insE e L := by unfold addL; rw [ha]; rfl
    have h2' := h2
    simp only [Ent.cs] at h2'
    refine ACalls.of_body Try.func16 rfl (by kernel_rfl) (by rw [Try.ntmps16]; simp) ?_; rw [Try.ntmps16]
    simp only [Ent.cs]
    repeat' ((fail_if_success (apply stopR (id := 5))); (fail_if_success (apply stopS (id := 5))); first | refine spD (fun _ => ?_) (fun _ => ?_) | refine spF (fun _ => ?_) (fun _ => ?_) | (apply gT; (exact rfl)) | (apply off; (exact rfl); (exact rfl)) | (apply condT; (exact rfl)) | (apply condF; (exact rfl)) | ((first | (apply stp0; (exact rfl); (exact rfl)) | (apply stpN0; (exact rfl)) | apply gT | apply condT | ((first | apply bodyQ_d0 | apply bodyQ_d1 | apply bodyQ_d2 | apply bodyQ_d3 | apply bodyQ_d4); (exact .inr rfl); (rw [Try.results16]))); (first | (focus (simp only [go_sem, ↓reduceIte, simprocAttr, hp] <;> rfl)) | exact rfl); (first | (fail_if_success (show okD _ _ _ _ _ _ _ _ _)) | (first | exact okT | exact okN | exact okE rfl)); (first | (fail_if_success (show Bel _ _)) | (focus first | exact .val _ | (simp [oneOf, Bel_iff_tup, Bel_iff_agg, Bel_iff_rsl, Bel_iff_fn, Bel_iff_rptr, Bel_val]; done)))) | (apply calTo0; (exact rfl); (iterate 2 (simp only [go_sem, ↓reduceIte, simprocAttr, hp]; rfl)); (first | exact h1 | exact h2'); (first | exact okT | exact okN | exact okE rfl)) | refine thenQ_n ?_ | refine thenQ_r ?_ | refine thenQ_e ?_ | refine blockQ_n ?_ | refine blockQ_r ?_ | refine blockQ_e ?_ | (apply blockQ_o; (exact rfl)) | refine Awp.seq ?_ | refine Awp.skip ?_ | refine Awp.block ?_ | refine reg (fun s => s == 5) ?_ | (apply drwE mixed (fun s => s == 5); (kernel_rfl)) | refine fin ?_ | refine Awp.ret ?_ | refine Awp.exit ?_ | ((first | (apply off; (exact rfl)) | apply condF); (first | (focus (simp only [go_sem, ↓reduceIte, simprocAttr, hp] <;> rfl)) | exact rfl)))
    all_goals first | contradiction | skip
    refine Awp.withT (fun T' => T' 0 = .mptr p 0 0 ∧ T' 3 = .rptr e.cs 0) ⟨by (first | (focus (simp only [go_sem, ↓reduceIte, simprocAttr]; first | done | rfl)) | rfl), by (first | (focus (simp only [go_sem, ↓reduceIte, simprocAttr, Ent.cs]; first | done | rfl)) | rfl)⟩ ?_
    rintro T0 ⟨t0, t3⟩
    refine Awp.seq ?_
    refine Awp.mono (add5 hp hb t0 t3) ?_
    clear t0 t3 T0
    rintro ex T1 K ⟨rfl, t0, t3, t5, t6, rfl⟩
    refine thenQ_n ?_
    have hG : Grow H (H ++ [AObj.cells [(oldE (lookK e.key T)).cs] 31]) := (Grow.refl _).app _
    have hx := get_new H (AObj.cells [(oldE (lookK e.key T)).cs] 31)
    have hp1 := (held hp).2.1 [AObj.cells [(oldE (lookK e.key T)).cs] 31]
    have hb1 := (held hb).2.1 [AObj.cells [(oldE (lookK e.key T)).cs] 31]
    rw [hlk] at t6
    have t3' := t3
    simp only [Ent.cs] at t3'
    cases hf : findE e.key L with
    | some o =>
      have ho : oldE (lookK e.key T) = o := by rw [hlk, hf]; rfl
      rw [ho] at hx hG hp1 hb1 ⊢
      rw [hf] at t6 ec el
      generalize H ++ [AObj.cells [o.cs] 31] = K1 at *
      generalize H.length = n at *
      simp only [Option.isSome_some] at t6
      simp only [Ent.cs] at hx
      have hbe := entBeq o e
      by_cases hoe : o = e
      · rw [decide_eq_true hoe] at hbe
        have hbe2 := hbe
        simp only [Bool.and_true] at hbe2
        simp only [if_pos hoe] at ec
        repeat' (first | refine spD (fun _ => ?_) (fun _ => ?_) | refine spF (fun _ => ?_) (fun _ => ?_) | (apply gT; (exact rfl)) | (apply off; (exact rfl); (exact rfl)) | (apply condT; (exact rfl)) | (apply condF; (exact rfl)) | ((first | (apply stp0; (exact rfl); (exact rfl)) | (apply stpN0; (exact rfl)) | apply gT | apply condT); (first | (focus (simp only [go_sem, ↓reduceIte, simprocAttr, t0, t3', t5, t6, hx, hbe, hbe2, Bool.not_true] <;> rfl)) | exact rfl); (first | (fail_if_success (show okD _ _ _ _ _ _ _ _ _)) | (first | exact okT | exact okN | exact okE rfl))) | refine thenQ_n ?_ | refine thenQ_r ?_ | refine thenQ_e ?_ | refine blockQ_n ?_ | refine blockQ_r ?_ | refine blockQ_e ?_ | (apply blockQ_o; (exact rfl)) | refine Awp.seq ?_ | refine Awp.skip ?_ | refine Awp.block ?_ | refine reg (fun s => s == 5) ?_ | (apply drwE mixed (fun s => s == 5); (kernel_rfl)) | refine fin ?_ | refine Awp.ret ?_ | refine Awp.exit ?_ | ((first | (apply off; (exact rfl)) | apply condF); (first | (focus (simp only [go_sem, ↓reduceIte, simprocAttr, t0, t3', t5, t6, hx, hbe, hbe2, Bool.not_true] <;> rfl)) | exact rfl)))
        all_goals first | contradiction | skip
        exact bodyQ_mk (vs := [iv 0]) (.inr rfl) (by rw [Try.results16]; first | (simp only [go_sem, ↓reduceIte, simprocAttr]; done) | (simp only [go_sem, ↓reduceIte, simprocAttr]; rfl)) (Vs.refl _ _ _) (finA _ el hG 0 ec)
      · rw [decide_eq_false hoe] at hbe
        have hbe2 := hbe
        simp only [Bool.and_true] at hbe2
        simp only [if_neg hoe] at ec
        repeat' (first | refine spD (fun _ => ?_) (fun _ => ?_) | refine spF (fun _ => ?_) (fun _ => ?_) | (apply gT; (exact rfl)) | (apply off; (exact rfl); (exact rfl)) | (apply condT; (exact rfl)) | (apply condF; (exact rfl)) | ((first | (apply stp0; (exact rfl); (exact rfl)) | (apply stpN0; (exact rfl)) | apply gT | apply condT); (first | (focus (simp only [go_sem, ↓reduceIte, simprocAttr, t0, t3', t5, t6, hx, hbe, hbe2, Bool.not_false] <;> rfl)) | exact rfl); (first | (fail_if_success (show okD _ _ _ _ _ _ _ _ _)) | (first | exact okT | exact okN | exact okE rfl))) | refine thenQ_n ?_ | refine thenQ_r ?_ | refine thenQ_e ?_ | refine blockQ_n ?_ | refine blockQ_r ?_ | refine blockQ_e ?_ | (apply blockQ_o; (exact rfl)) | refine Awp.seq ?_ | refine Awp.skip ?_ | refine Awp.block ?_ | refine reg (fun s => s == 5) ?_ | (apply drwE mixed (fun s => s == 5); (kernel_rfl)) | refine fin ?_ | refine Awp.ret ?_ | refine Awp.exit ?_ | ((first | (apply off; (exact rfl)) | apply condF); (first | (focus (simp only [go_sem, ↓reduceIte, simprocAttr, t0, t3', t5, t6, hx, hbe, hbe2, Bool.not_false] <;> rfl)) | exact rfl)))
        all_goals first | contradiction | skip
        exact bodyQ_mk (vs := [iv 12]) (.inr rfl) (by rw [Try.results16]; first | (simp only [go_sem, ↓reduceIte, simprocAttr]; done) | (simp only [go_sem, ↓reduceIte, simprocAttr]; rfl)) (Vs.refl _ _ _) (finA _ el hG 12 ec)
    | none =>
      rw [hf] at t6 ec el
      simp only [Option.isSome_none] at t6 ec el
      have hlen : (tabA k3A Ent.av T).length = L.length := by unfold tabA; rw [List.length_map]; exact hT.len
      generalize H ++ [AObj.cells [(oldE (lookK e.key T)).cs] 31] = K1 at *
      by_cases hfull : L.length = 1024
      · rw [if_pos hfull] at ec el
        have g1 : (L.length : Int) = 1024 := by omega
        repeat' (first | refine spD (fun _ => ?_) (fun _ => ?_) | refine spF (fun _ => ?_) (fun _ => ?_) | (apply gT; (exact rfl)) | (apply off; (exact rfl); (exact rfl)) | (apply condT; (exact rfl)) | (apply condF; (exact rfl)) | ((first | (apply stp0; (exact rfl); (exact rfl)) | (apply stpN0; (exact rfl)) | apply gT | apply condT); (first | (focus (simp only [go_sem, ↓reduceIte, simprocAttr, t0, t3', t5, t6, hp1, hb1, hlen, g1] <;> rfl)) | exact rfl); (first | (fail_if_success (show okD _ _ _ _ _ _ _ _ _)) | (first | exact okT | exact okN | exact okE rfl))) | refine thenQ_n ?_ | refine thenQ_r ?_ | refine thenQ_e ?_ | refine blockQ_n ?_ | refine blockQ_r ?_ | refine blockQ_e ?_ | (apply blockQ_o; (exact rfl)) | refine Awp.seq ?_ | refine Awp.skip ?_ | refine Awp.block ?_ | refine reg (fun s => s == 5) ?_ | (apply drwE mixed (fun s => s == 5); (kernel_rfl)) | refine fin ?_ | refine Awp.ret ?_ | refine Awp.exit ?_ | ((first | (apply off; (exact rfl)) | apply condF); (first | (focus (simp only [go_sem, ↓reduceIte, simprocAttr, t0, t3', t5, t6, hp1, hb1, hlen, g1] <;> rfl)) | exact rfl)))
        all_goals first | contradiction | skip
        exact bodyQ_mk (vs := [iv 11]) (.inr rfl) (by rw [Try.results16]; first | (simp only [go_sem, ↓reduceIte, simprocAttr]; done) | (simp only [go_sem, ↓reduceIte, simprocAttr]; rfl)) (Vs.refl _ _ _) (finA _ el hG 11 ec)
      · rw [if_neg hfull] at ec el
        have g1 : ¬ (L.length : Int) = 1024 := by omega
        repeat' ((fail_if_success (apply stopR (id := 12))); (fail_if_success (apply stopS (id := 12))); first | refine spD (fun _ => ?_) (fun _ => ?_) | refine spF (fun _ => ?_) (fun _ => ?_) | (apply gT; (exact rfl)) | (apply off; (exact rfl); (exact rfl)) | (apply condT; (exact rfl)) | (apply condF; (exact rfl)) | ((first | (apply stp0; (exact rfl); (exact rfl)) | (apply stpN0; (exact rfl)) | apply gT | apply condT | ((first | apply bodyQ_d0 | apply bodyQ_d1 | apply bodyQ_d2 | apply bodyQ_d3 | apply bodyQ_d4); (exact .inr rfl); (rw [Try.results16]))); (first | (focus (simp only [go_sem, ↓reduceIte, simprocAttr, t0, t3', t5, t6, hp1, hb1, hlen, g1] <;> rfl)) | exact rfl); (first | (fail_if_success (show okD _ _ _ _ _ _ _ _ _)) | (first | exact okT | exact okN | exact okE rfl)); (first | (fail_if_success (show Bel _ _)) | (focus first | exact .val _ | (simp [oneOf, Bel_iff_tup, Bel_iff_agg, Bel_iff_rsl, Bel_iff_fn, Bel_iff_rptr, Bel_val]; done)))) | refine thenQ_n ?_ | refine thenQ_r ?_ | refine thenQ_e ?_ | refine blockQ_n ?_ | refine blockQ_r ?_ | refine blockQ_e ?_ | (apply blockQ_o; (exact rfl)) | refine Awp.seq ?_ | refine Awp.skip ?_ | refine Awp.block ?_ | refine reg (fun s => s == 5) ?_ | (apply drwE mixed (fun s => s == 5); (kernel_rfl)) | refine fin ?_ | refine Awp.ret ?_ | refine Awp.exit ?_ | ((first | (apply off; (exact rfl)) | apply condF); (first | (focus (simp only [go_sem, ↓reduceIte, simprocAttr, t0, t3', t5, t6, hp1, hb1, hlen, g1] <;> rfl)) | exact rfl)))
        all_goals first | contradiction | skip
        refine Awp.withT (fun T' => T' 0 = .mptr p 0 0 ∧ T' 3 = .rptr e.cs 0) ⟨by (first | (focus (simp only [go_sem, ↓reduceIte, simprocAttr, t0]; first | done | rfl)) | rfl), by (first | (focus (simp only [go_sem, ↓reduceIte, simprocAttr, t3]; first | done | rfl)) | rfl)⟩ ?_
        clear t0 t3 t3' t5 t6 T1
        rintro T1 ⟨t0, t3⟩
        refine Awp.seq ?_
        refine Awp.mono (add12 hp1 hb1 t0 t3) ?_
        rintro ex T2 K2 ⟨rfl, rfl⟩
        refine thenQ_n ?_
        have hne : b ≠ p := fun e => by rw [e, hp] at hb; cases hb
        repeat' (first | refine spD (fun _ => ?_) (fun _ => ?_) | refine spF (fun _ => ?_) (fun _ => ?_) | (apply gT; (exact rfl)) | (apply off; (exact rfl); (exact rfl)) | (apply condT; (exact rfl)) | (apply condF; (exact rfl)) | ((first | (apply stp0; (exact rfl); (exact rfl)) | (apply stpN0; (exact rfl)) | apply gT | apply condT); (first | (focus (simp only [go_sem, ↓reduceIte, simprocAttr] <;> rfl)) | exact rfl); (first | (fail_if_success (show okD _ _ _ _ _ _ _ _ _)) | (first | exact okT | exact okN | exact okE rfl))) | refine thenQ_n ?_ | refine thenQ_r ?_ | refine thenQ_e ?_ | refine blockQ_n ?_ | refine blockQ_r ?_ | refine blockQ_e ?_ | (apply blockQ_o; (exact rfl)) | refine Awp.seq ?_ | refine Awp.skip ?_ | refine Awp.block ?_ | refine reg (fun s => s == 5) ?_ | (apply drwE mixed (fun s => s == 5); (kernel_rfl)) | refine fin ?_ | refine Awp.ret ?_ | refine Awp.exit ?_ | ((first | (apply off; (exact rfl)) | apply condF); (first | (focus (simp only [go_sem, ↓reduceIte, simprocAttr] <;> rfl)) | exact rfl)))
        all_goals first | contradiction | skip
        refine bodyQ_mk (vs := [iv 0]) (.inr rfl) (by rw [Try.results16]; first | (simp only [go_sem, ↓reduceIte, simprocAttr]; done) | (simp only [go_sem, ↓reduceIte, simprocAttr]; rfl)) (Vs.refl _ _ _) ⟨by rw [ec]; rfl, ⟨?_, ⟨updK e.key e T, (heldS hb1).1 _, by rw [el]; exact hT.add hA.srt hf⟩, by rw [el]; exact insE_srt hA.srt (findE_none hf)⟩, ?_, fun j hj hjb => ?_⟩
        · rw [List.getElem?_set_ne hne]; exact hp1
        · rw [List.length_set]; exact hG.len
        · rw [List.getElem?_set_ne (Ne.symm hjb)]; exact hG.old j hj

end Go.Proofs.Ytdmgljlabigljaa.Ab
