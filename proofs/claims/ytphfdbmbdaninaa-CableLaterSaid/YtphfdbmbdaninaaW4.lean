/- Cables: a path, step by step. -/
import Derived.Test.YtphfdbmbdaninaaW3
namespace Go.Proofs.Ytphfdbmbdaninaa.Ab
open Go Go.RowKit Go.Proofs
set_option linter.unusedSimpArgs false
set_option linter.unusedVariables false
attribute [local irreducible] Awp wpO thenQ blockQ bodyQ ACalls stepA

theorem up_ok (H : Hp) (c : Cb) (k : Int) : CallsTo Try.prog 75 [treeV c, iv k] H (.fn (.func 111) [.mptr H.length 0 0, .rptr [treeV c] 0]) (H ++ [.cells [[iv k]] 3]) := by
  refine ACalls.of_body Try.func75 rfl (by kernel_rfl) (by rw [Try.ntmps75]; simp) ?_; rw [Try.ntmps75]
  unfold treeV
  repeat' (first | refine spD (fun _ => ?_) (fun _ => ?_) | refine spF (fun _ => ?_) (fun _ => ?_) | (apply gT; (exact rfl)) | (apply off; (exact rfl); (exact rfl)) | (apply condT; (exact rfl)) | (apply condF; (exact rfl)) | ((first | (apply stp0; (exact rfl); (exact rfl)) | (apply stpN0; (exact rfl)) | apply gT | apply condT | ((first | apply bodyQ_d0 | apply bodyQ_d1 | apply bodyQ_d2 | apply bodyQ_d3 | apply bodyQ_d4); (exact .inr rfl); (rw [Try.results75]))); (first | (focus (simp only [go_sem, ↓reduceIte, Nat.reduceEqDiff, Nat.reduceBEq, Nat.reduceAdd, Nat.reduceLeDiff, Nat.reduceMul, Nat.reduceLT, Int.reduceToNat, reduceCtorEq, Int.reduceBEq, Int.reduceBNe, Int.reduceLT, Int.reduceLE, Int.reduceGT, Int.reduceGE] <;> rfl)) | exact rfl); (first | (fail_if_success (show okD _ _ _ _ _ _ _ _ _)) | (first | exact okT | exact okN | exact okE rfl)); (first | (fail_if_success (show Bel _ _)) | (focus first | exact .val _ | (simp [oneOf, Bel_iff_tup, Bel_iff_agg, Bel_iff_rsl, Bel_iff_fn, Bel_iff_rptr, Bel_val]; done)))) | refine thenQ_n ?_ | refine thenQ_r ?_ | refine thenQ_e ?_ | refine blockQ_n ?_ | refine blockQ_r ?_ | refine blockQ_e ?_ | (apply blockQ_o; (exact rfl)) | refine Awp.seq ?_ | refine Awp.skip ?_ | refine Awp.block ?_ | refine reg (fun s => s == 3) ?_ | (apply drwE mixed (fun s => s == 3); (kernel_rfl)) | refine fin ?_ | refine Awp.ret ?_ | refine Awp.exit ?_ | ((first | (apply off; (exact rfl)) | apply condF); (first | (focus (simp only [go_sem, ↓reduceIte, Nat.reduceEqDiff, Nat.reduceBEq, Nat.reduceAdd, Nat.reduceLeDiff, Nat.reduceMul, Nat.reduceLT, Int.reduceToNat, reduceCtorEq, Int.reduceBEq, Int.reduceBNe, Int.reduceLT, Int.reduceLE, Int.reduceGT, Int.reduceGE] <;> rfl)) | exact rfl)))
  exact bodyQ_eq (.inr rfl) (by rw [Try.results75]; simp only [go_sem, ↓reduceIte, Nat.reduceEqDiff, Nat.reduceBEq, Nat.reduceAdd, Nat.reduceLeDiff, Nat.reduceMul, Nat.reduceLT, Int.reduceToNat, reduceCtorEq, Int.reduceBEq, Int.reduceBNe, Int.reduceLT, Int.reduceLE, Int.reduceGT, Int.reduceGE]; rfl) ⟨rfl, rfl⟩

theorem upLoop (c : Cb) (hg : c.good) {k0 : Nat} (hk0 : k0 < c.l.length) (b0 b : Nat) (I : Nat → Hp → Prop) (Stop : Hp → Prop) (hI : ∀ j H, I j H → H[b0]? = some (.cells [[iv (pathV c.l k0 j)]] 3))
    (hy : ∀ (j p : Nat) (H : Hp), (pth c.l k0)[j]? = some p → I j H → AYield Try.prog b [iv p] H (fun v1 H1 => (v1 = bv true ∧ H1[b0]? = some (.cells [[iv p]] 3) ∧ I (j + 1) (H1.set b0 (.cells [[iv (pathV c.l k0 (j + 1))]] 3))) ∨ (v1 = bv false ∧ Stop H1)))
    (H : Hp) (h0 : I 0 H) : ACalls Try.prog 111 [.fn (.yield b) [], .mptr b0 0 0, .rptr [treeV c] 0] H fun _ H' => I (pth c.l k0).length H' ∨ Stop H' := by
  refine ACalls.of_body Try.func111 rfl (by kernel_rfl) (by rw [Try.ntmps111]; simp) ?_; rw [Try.ntmps111]
  refine Awp.block ?_
  refine Awp.loop (ι := Nat) (fun i T' H' => i ≤ (pth c.l k0).length ∧ T' 0 = .fn (.yield b) [] ∧ T' 1 = .mptr b0 0 0 ∧ T' 2 = .rptr [treeV c] 0 ∧ I i H') (fun i => (pth c.l k0).length - i) 0 ?_ ?_
  · refine ⟨by omega, ?_, ?_, ?_, h0⟩
    · rfl
    · rfl
    · rfl
  rintro i T H' ⟨hi, h0', h1, h2, hinv⟩
  have hbx := hI i H' hinv
  by_cases hlt : i < (pth c.l k0).length
  · obtain ⟨p, hp⟩ := nth hlt
    have hpn := pth_lt hk0 hp
    obtain ⟨a, ha⟩ := nth hpn
    have hac := nthMap Nd.cs ha
    simp only [Nd.cs] at hac
    rw [pathV_at hp] at hbx
    have hge : (0 : Int) ≤ (p : Int) := by omega
    have hcall := hy i p H' hp hinv
    rw [pathV_next hg hk0 hp ha] at hcall
    simp only [treeV, Cb.cs, List.cons_append, List.nil_append] at h2
    repeat' (first | refine spD (fun _ => ?_) (fun _ => ?_) | refine spF (fun _ => ?_) (fun _ => ?_) | (apply gT; (exact rfl)) | (apply off; (exact rfl); (exact rfl)) | (apply condT; (exact rfl)) | (apply condF; (exact rfl)) | ((first | (apply stp0; (exact rfl); (exact rfl)) | (apply stpN0; (exact rfl)) | apply gT | apply condT | ((first | apply bodyQ_d0 | apply bodyQ_d1 | apply bodyQ_d2 | apply bodyQ_d3 | apply bodyQ_d4); (exact .inr rfl); (rw [Try.results111]))); (first | (focus (simp only [go_sem, ↓reduceIte, Nat.reduceEqDiff, Nat.reduceBEq, Nat.reduceAdd, Nat.reduceLeDiff, Nat.reduceMul, Nat.reduceLT, Int.reduceToNat, reduceCtorEq, Int.reduceBEq, Int.reduceBNe, Int.reduceLT, Int.reduceLE, Int.reduceGT, Int.reduceGE, h0', h1, h2, hbx, hge, hac] <;> rfl)) | exact rfl); (first | (fail_if_success (show okD _ _ _ _ _ _ _ _ _)) | (first | exact okT | exact okN | exact okE rfl)); (first | (fail_if_success (show Bel _ _)) | (focus first | exact .val _ | (simp [oneOf, Bel_iff_tup, Bel_iff_agg, Bel_iff_rsl, Bel_iff_fn, Bel_iff_rptr, Bel_val]; done)))) | refine thenQ_n ?_ | refine thenQ_r ?_ | refine thenQ_e ?_ | refine blockQ_n ?_ | refine blockQ_r ?_ | refine blockQ_e ?_ | (apply blockQ_o; (exact rfl)) | refine Awp.seq ?_ | refine Awp.skip ?_ | refine Awp.block ?_ | refine reg (fun s => false) ?_ | (apply drwE mixed (fun s => false); (kernel_rfl)) | refine fin ?_ | refine Awp.ret ?_ | refine Awp.exit ?_ | ((first | (apply off; (exact rfl)) | apply condF); (first | (focus (simp only [go_sem, ↓reduceIte, Nat.reduceEqDiff, Nat.reduceBEq, Nat.reduceAdd, Nat.reduceLeDiff, Nat.reduceMul, Nat.reduceLT, Int.reduceToNat, reduceCtorEq, Int.reduceBEq, Int.reduceBNe, Int.reduceLT, Int.reduceLE, Int.reduceGT, Int.reduceGE, h0', h1, h2, hbx, hge, hac] <;> rfl)) | exact rfl)))
    refine cal rfl rfl ?_ ?_ (show ACallV Try.prog (.fn (.yield b) []) [iv p] H' _ from hcall) ?_
    · (first | (focus (simp only [go_sem, ↓reduceIte, Nat.reduceEqDiff, Nat.reduceBEq, Nat.reduceAdd, Nat.reduceLeDiff, Nat.reduceMul, Nat.reduceLT, Int.reduceToNat, reduceCtorEq, Int.reduceBEq, Int.reduceBNe, Int.reduceLT, Int.reduceLE, Int.reduceGT, Int.reduceGE, h0']; done)) | (focus (simp only [go_sem, ↓reduceIte, Nat.reduceEqDiff, Nat.reduceBEq, Nat.reduceAdd, Nat.reduceLeDiff, Nat.reduceMul, Nat.reduceLT, Int.reduceToNat, reduceCtorEq, Int.reduceBEq, Int.reduceBNe, Int.reduceLT, Int.reduceLE, Int.reduceGT, Int.reduceGE, h0']; rfl)) | rfl)
    · (first | (focus (simp only [go_sem, ↓reduceIte, Nat.reduceEqDiff, Nat.reduceBEq, Nat.reduceAdd, Nat.reduceLeDiff, Nat.reduceMul, Nat.reduceLT, Int.reduceToNat, reduceCtorEq, Int.reduceBEq, Int.reduceBNe, Int.reduceLT, Int.reduceLE, Int.reduceGT, Int.reduceGE, hbx]; done)) | (focus (simp only [go_sem, ↓reduceIte, Nat.reduceEqDiff, Nat.reduceBEq, Nat.reduceAdd, Nat.reduceLeDiff, Nat.reduceMul, Nat.reduceLT, Int.reduceToNat, reduceCtorEq, Int.reduceBEq, Int.reduceBNe, Int.reduceLT, Int.reduceLE, Int.reduceGT, Int.reduceGE, hbx]; rfl)) | rfl)
    rintro v1 H2 (⟨rfl, hb2, hnext⟩ | ⟨rfl, hstop⟩)
    · repeat' (first | refine spD (fun _ => ?_) (fun _ => ?_) | refine spF (fun _ => ?_) (fun _ => ?_) | (apply gT; (exact rfl)) | (apply off; (exact rfl); (exact rfl)) | (apply condT; (exact rfl)) | (apply condF; (exact rfl)) | ((first | (apply stp0; (exact rfl); (exact rfl)) | (apply stpN0; (exact rfl)) | apply gT | apply condT | ((first | apply bodyQ_d0 | apply bodyQ_d1 | apply bodyQ_d2 | apply bodyQ_d3 | apply bodyQ_d4); (exact .inr rfl); (rw [Try.results111]))); (first | (focus (simp only [go_sem, ↓reduceIte, Nat.reduceEqDiff, Nat.reduceBEq, Nat.reduceAdd, Nat.reduceLeDiff, Nat.reduceMul, Nat.reduceLT, Int.reduceToNat, reduceCtorEq, Int.reduceBEq, Int.reduceBNe, Int.reduceLT, Int.reduceLE, Int.reduceGT, Int.reduceGE, h0', h1, h2, hbx, hge, hac, hb2] <;> rfl)) | exact rfl); (first | (fail_if_success (show okD _ _ _ _ _ _ _ _ _)) | (first | exact okT | exact okN | exact okE rfl)); (first | (fail_if_success (show Bel _ _)) | (focus first | exact .val _ | (simp [oneOf, Bel_iff_tup, Bel_iff_agg, Bel_iff_rsl, Bel_iff_fn, Bel_iff_rptr, Bel_val]; done)))) | refine thenQ_n ?_ | refine thenQ_r ?_ | refine thenQ_e ?_ | refine blockQ_n ?_ | refine blockQ_r ?_ | refine blockQ_e ?_ | (apply blockQ_o; (exact rfl)) | refine Awp.seq ?_ | refine Awp.skip ?_ | refine Awp.block ?_ | refine reg (fun s => false) ?_ | (apply drwE mixed (fun s => false); (kernel_rfl)) | refine fin ?_ | refine Awp.ret ?_ | refine Awp.exit ?_ | ((first | (apply off; (exact rfl)) | apply condF); (first | (focus (simp only [go_sem, ↓reduceIte, Nat.reduceEqDiff, Nat.reduceBEq, Nat.reduceAdd, Nat.reduceLeDiff, Nat.reduceMul, Nat.reduceLT, Int.reduceToNat, reduceCtorEq, Int.reduceBEq, Int.reduceBNe, Int.reduceLT, Int.reduceLE, Int.reduceGT, Int.reduceGE, h0', h1, h2, hbx, hge, hac, hb2] <;> rfl)) | exact rfl)))
      refine ⟨i + 1, ⟨by omega, ?_, ?_, ?_, hnext⟩, by omega⟩
      · (first | (focus (simp only [go_sem, ↓reduceIte, Nat.reduceEqDiff, Nat.reduceBEq, Nat.reduceAdd, Nat.reduceLeDiff, Nat.reduceMul, Nat.reduceLT, Int.reduceToNat, reduceCtorEq, Int.reduceBEq, Int.reduceBNe, Int.reduceLT, Int.reduceLE, Int.reduceGT, Int.reduceGE, h0']; done)) | (focus (simp only [go_sem, ↓reduceIte, Nat.reduceEqDiff, Nat.reduceBEq, Nat.reduceAdd, Nat.reduceLeDiff, Nat.reduceMul, Nat.reduceLT, Int.reduceToNat, reduceCtorEq, Int.reduceBEq, Int.reduceBNe, Int.reduceLT, Int.reduceLE, Int.reduceGT, Int.reduceGE, h0']; rfl)) | rfl)
      · (first | (focus (simp only [go_sem, ↓reduceIte, Nat.reduceEqDiff, Nat.reduceBEq, Nat.reduceAdd, Nat.reduceLeDiff, Nat.reduceMul, Nat.reduceLT, Int.reduceToNat, reduceCtorEq, Int.reduceBEq, Int.reduceBNe, Int.reduceLT, Int.reduceLE, Int.reduceGT, Int.reduceGE, h1]; done)) | (focus (simp only [go_sem, ↓reduceIte, Nat.reduceEqDiff, Nat.reduceBEq, Nat.reduceAdd, Nat.reduceLeDiff, Nat.reduceMul, Nat.reduceLT, Int.reduceToNat, reduceCtorEq, Int.reduceBEq, Int.reduceBNe, Int.reduceLT, Int.reduceLE, Int.reduceGT, Int.reduceGE, h1]; rfl)) | rfl)
      · (first | (focus (simp only [go_sem, ↓reduceIte, Nat.reduceEqDiff, Nat.reduceBEq, Nat.reduceAdd, Nat.reduceLeDiff, Nat.reduceMul, Nat.reduceLT, Int.reduceToNat, reduceCtorEq, Int.reduceBEq, Int.reduceBNe, Int.reduceLT, Int.reduceLE, Int.reduceGT, Int.reduceGE, h2, treeV, Cb.cs, List.cons_append, List.nil_append]; done)) | (focus (simp only [go_sem, ↓reduceIte, Nat.reduceEqDiff, Nat.reduceBEq, Nat.reduceAdd, Nat.reduceLeDiff, Nat.reduceMul, Nat.reduceLT, Int.reduceToNat, reduceCtorEq, Int.reduceBEq, Int.reduceBNe, Int.reduceLT, Int.reduceLE, Int.reduceGT, Int.reduceGE, h2, treeV, Cb.cs, List.cons_append, List.nil_append]; rfl)) | rfl)
    · repeat' (first | refine spD (fun _ => ?_) (fun _ => ?_) | refine spF (fun _ => ?_) (fun _ => ?_) | (apply gT; (exact rfl)) | (apply off; (exact rfl); (exact rfl)) | (apply condT; (exact rfl)) | (apply condF; (exact rfl)) | ((first | (apply stp0; (exact rfl); (exact rfl)) | (apply stpN0; (exact rfl)) | apply gT | apply condT | ((first | apply bodyQ_d0 | apply bodyQ_d1 | apply bodyQ_d2 | apply bodyQ_d3 | apply bodyQ_d4); (exact .inr rfl); (rw [Try.results111]))); (first | (focus (simp only [go_sem, ↓reduceIte, Nat.reduceEqDiff, Nat.reduceBEq, Nat.reduceAdd, Nat.reduceLeDiff, Nat.reduceMul, Nat.reduceLT, Int.reduceToNat, reduceCtorEq, Int.reduceBEq, Int.reduceBNe, Int.reduceLT, Int.reduceLE, Int.reduceGT, Int.reduceGE, h0', h1, h2, hbx, hge, hac] <;> rfl)) | exact rfl); (first | (fail_if_success (show okD _ _ _ _ _ _ _ _ _)) | (first | exact okT | exact okN | exact okE rfl)); (first | (fail_if_success (show Bel _ _)) | (focus first | exact .val _ | (simp [oneOf, Bel_iff_tup, Bel_iff_agg, Bel_iff_rsl, Bel_iff_fn, Bel_iff_rptr, Bel_val]; done)))) | refine thenQ_n ?_ | refine thenQ_r ?_ | refine thenQ_e ?_ | refine blockQ_n ?_ | refine blockQ_r ?_ | refine blockQ_e ?_ | (apply blockQ_o; (exact rfl)) | refine Awp.seq ?_ | refine Awp.skip ?_ | refine Awp.block ?_ | refine reg (fun s => false) ?_ | (apply drwE mixed (fun s => false); (kernel_rfl)) | refine fin ?_ | refine Awp.ret ?_ | refine Awp.exit ?_ | ((first | (apply off; (exact rfl)) | apply condF); (first | (focus (simp only [go_sem, ↓reduceIte, Nat.reduceEqDiff, Nat.reduceBEq, Nat.reduceAdd, Nat.reduceLeDiff, Nat.reduceMul, Nat.reduceLT, Int.reduceToNat, reduceCtorEq, Int.reduceBEq, Int.reduceBNe, Int.reduceLT, Int.reduceLE, Int.reduceGT, Int.reduceGE, h0', h1, h2, hbx, hge, hac] <;> rfl)) | exact rfl)))
      exact bodyQ_eq (.inl rfl) (by rw [Try.results111]; simp only [go_sem, ↓reduceIte, Nat.reduceEqDiff, Nat.reduceBEq, Nat.reduceAdd, Nat.reduceLeDiff, Nat.reduceMul, Nat.reduceLT, Int.reduceToNat, reduceCtorEq, Int.reduceBEq, Int.reduceBNe, Int.reduceLT, Int.reduceLE, Int.reduceGT, Int.reduceGE]; rfl) (.inr hstop)
  · have hil : i = (pth c.l k0).length := by omega
    subst hil
    rw [pathV_end] at hbx
    repeat' (first | refine spD (fun _ => ?_) (fun _ => ?_) | refine spF (fun _ => ?_) (fun _ => ?_) | (apply gT; (exact rfl)) | (apply off; (exact rfl); (exact rfl)) | (apply condT; (exact rfl)) | (apply condF; (exact rfl)) | ((first | (apply stp0; (exact rfl); (exact rfl)) | (apply stpN0; (exact rfl)) | apply gT | apply condT | ((first | apply bodyQ_d0 | apply bodyQ_d1 | apply bodyQ_d2 | apply bodyQ_d3 | apply bodyQ_d4); (exact .inr rfl); (rw [Try.results111]))); (first | (focus (simp only [go_sem, ↓reduceIte, Nat.reduceEqDiff, Nat.reduceBEq, Nat.reduceAdd, Nat.reduceLeDiff, Nat.reduceMul, Nat.reduceLT, Int.reduceToNat, reduceCtorEq, Int.reduceBEq, Int.reduceBNe, Int.reduceLT, Int.reduceLE, Int.reduceGT, Int.reduceGE, h0', h1, h2, hbx] <;> rfl)) | exact rfl); (first | (fail_if_success (show okD _ _ _ _ _ _ _ _ _)) | (first | exact okT | exact okN | exact okE rfl)); (first | (fail_if_success (show Bel _ _)) | (focus first | exact .val _ | (simp [oneOf, Bel_iff_tup, Bel_iff_agg, Bel_iff_rsl, Bel_iff_fn, Bel_iff_rptr, Bel_val]; done)))) | refine thenQ_n ?_ | refine thenQ_r ?_ | refine thenQ_e ?_ | refine blockQ_n ?_ | refine blockQ_r ?_ | refine blockQ_e ?_ | (apply blockQ_o; (exact rfl)) | refine Awp.seq ?_ | refine Awp.skip ?_ | refine Awp.block ?_ | refine reg (fun s => false) ?_ | (apply drwE mixed (fun s => false); (kernel_rfl)) | refine fin ?_ | refine Awp.ret ?_ | refine Awp.exit ?_ | ((first | (apply off; (exact rfl)) | apply condF); (first | (focus (simp only [go_sem, ↓reduceIte, Nat.reduceEqDiff, Nat.reduceBEq, Nat.reduceAdd, Nat.reduceLeDiff, Nat.reduceMul, Nat.reduceLT, Int.reduceToNat, reduceCtorEq, Int.reduceBEq, Int.reduceBNe, Int.reduceLT, Int.reduceLE, Int.reduceGT, Int.reduceGE, h0', h1, h2, hbx] <;> rfl)) | exact rfl)))
    exact bodyQ_eq (.inl rfl) (by rw [Try.results111]; simp only [go_sem, ↓reduceIte, Nat.reduceEqDiff, Nat.reduceBEq, Nat.reduceAdd, Nat.reduceLeDiff, Nat.reduceMul, Nat.reduceLT, Int.reduceToNat, reduceCtorEq, Int.reduceBEq, Int.reduceBNe, Int.reduceLT, Int.reduceLE, Int.reduceGT, Int.reduceGE]; rfl) (.inl hinv)

theorem get_snd (L : Hp) (x y : AObj) (Z : Hp) : (L ++ [x] ++ [y] ++ Z)[L.length + 1]? = some y := by simp
theorem get_snd0 (L : Hp) (x y : AObj) : (L ++ [x] ++ [y])[L.length + 1]? = some y := by simp
theorem get_trd (L : Hp) (x y z : AObj) : (L ++ [x] ++ [y] ++ [z])[L.length + 2]? = some z := by simp
theorem set_snd0 (L : Hp) (x y c : AObj) : (L ++ [x] ++ [y]).set (L.length + 1) c = L ++ [x] ++ [c] := by simp
theorem set_snd (L : Hp) (x y c : AObj) (Z : Hp) : (L ++ [x] ++ [y] ++ Z).set (L.length + 1) c = L ++ [x] ++ [c] ++ Z := by simp

/-- the same length, and what is new leads to nothing -/
structure Lk (A B : Hp) : Prop where
  len : B.length = A.length
  bel : ∀ (b : Nat) (ob : AObj), B[b]? = some ob → A[b]? = some ob ∨ ∀ m, BelO m ob

theorem Lk.refl (A : Hp) : Lk A A := ⟨rfl, fun _ _ h => .inl h⟩
theorem Lk.set {A B : Hp} (h : Lk A B) {b : Nat} {ob : AObj} (hb : ∀ m, BelO m ob) : Lk A (B.set b ob) := by
  refine ⟨by simpa using h.len, fun b' ob' hb' => ?_⟩
  rw [List.getElem?_set] at hb'
  split at hb'
  · split at hb'
    · cases hb'; exact .inr hb
    · cases hb'
  · exact h.bel b' ob' hb'
theorem Lk.trans {A B C : Hp} (h : Lk A B) (k : Lk B C) : Lk A C :=
  ⟨k.len.trans h.len, fun b ob hb => (k.bel b ob hb).elim (h.bel b ob) .inr⟩

theorem BelO_plain {es : List (List AV)} {t : TypeId} (h : ∀ e ∈ es, ∀ a ∈ e, ∃ v, a = .val v) (m : Nat) : BelO m (.cells es t) :=
  .cells fun e he a ha => by obtain ⟨v, rfl⟩ := h e he a ha; exact .val v

theorem bel_mid {A B : Hp} {x y y' : AObj} (hL : Lk A B) (hy0 : y ≠ .dead) (hy : ∀ m, BelO m y → BelO m y') (hbel : ∀ (b : Nat) (ob : AObj), (A ++ [x] ++ [y])[b]? = some ob → ob ≠ .dead → BelO (A ++ [x] ++ [y]).length ob) :
    ∀ (b : Nat) (ob : AObj), (B ++ [x] ++ [y'])[b]? = some ob → ob ≠ .dead → BelO (B ++ [x] ++ [y']).length ob := by
  intro b ob hb hn
  have hlen : (B ++ [x] ++ [y']).length = (A ++ [x] ++ [y]).length := by simp [hL.len]
  rw [hlen]
  rcases Nat.lt_trichotomy b B.length with h | h | h
  · rw [List.append_assoc, List.getElem?_append_left h] at hb
    rcases hL.bel b ob hb with h1 | h1
    · refine hbel b ob ?_ hn
      rw [List.append_assoc, List.getElem?_append_left (by rw [← hL.len]; exact h)]
      exact h1
    · exact h1 _
  · subst h
    refine hbel B.length ob ?_ hn
    rw [get_new2] at hb
    rw [hL.len, get_new2]; exact hb
  · have := (List.getElem?_eq_some_iff.1 hb).1
    simp at this
    have e : b = B.length + 1 := by omega
    subst e
    rw [get_snd0] at hb
    cases hb
    exact hy _ (hbel (B.length + 1) y (by rw [hL.len]; exact get_snd0 ..) hy0)

theorem bel_lp {m : Nat} {st st' : LoopState} {pend pend' : Option Code} {f : FuncId} {T : Env} {n : Nat} {ps : Array Tmp} {assign body : Code} {D : Nat} (h : BelO m (.loop st pend f T n ps assign body D)) : BelO m (.loop st' pend' f T n ps assign body D) := by
  cases h with
  | loop h => exact .loop h

def bxO (v : Int) : AObj := .cells [[iv v]] 3

/-- how a round ends -/
def roundE (A : Hp) (p : Nat) (lp : LoopState → AObj) (Nx Rq : Hp → Prop) (Eq : Nat → Hp → Prop) : Exit → Env → Hp → Prop := fun e _ H2 =>
  ∃ B X, H2 = B ++ [bxO p] ++ [lp .busy] ++ X ∧ Lk A B ∧ match e with
    | .normal => Nx B
    | .ret => Rq B
    | .exit id => Eq id B
    | _ => False

theorem roundE_n {A B X : Hp} {p : Nat} {lp : LoopState → AObj} {Nx Rq : Hp → Prop} {Eq : Nat → Hp → Prop} {T : Env} (hL : Lk A B) (h : Nx B) : roundE A p lp Nx Rq Eq .normal T (B ++ [bxO p] ++ [lp .busy] ++ X) := ⟨B, X, rfl, hL, h⟩
theorem roundE_r {A B X : Hp} {p : Nat} {lp : LoopState → AObj} {Nx Rq : Hp → Prop} {Eq : Nat → Hp → Prop} {T : Env} (hL : Lk A B) (h : Rq B) : roundE A p lp Nx Rq Eq .ret T (B ++ [bxO p] ++ [lp .busy] ++ X) := ⟨B, X, rfl, hL, h⟩
theorem roundE_e {A B X : Hp} {p id : Nat} {lp : LoopState → AObj} {Nx Rq : Hp → Prop} {Eq : Nat → Hp → Prop} {T : Env} (hL : Lk A B) (h : Eq id B) : roundE A p lp Nx Rq Eq (.exit id) T (B ++ [bxO p] ++ [lp .busy] ++ X) := ⟨B, X, rfl, hL, h⟩

/-- for i := range t.up(k) -/
theorem overUp {n : Nat} {T : Env} {Q : Exit → Env → Hp → Prop} {gop : Operand} {x : Nat} {assign body : Code} {A : Hp} (c : Cb) (hg : c.good) {k0 : Nat} (hk0 : k0 < c.l.length)
    (hT : evA T gop = .fn (.func 111) [.mptr A.length 0 0, .rptr [treeV c] 0]) (hx : x < n) (I : Nat → Hp → Prop) (Rq : Hp → Prop) (Eq : Nat → Hp → Prop) (hl : ∀ j B, I j B → B.length = A.length) (h0 : I 0 A)
    (hb : ∀ (lp : LoopState → AObj) (j p : Nat) (B : Hp), (pth c.l k0)[j]? = some p → I j B →
      Awp Try.prog n (some (A.length + 1)) assign (upd T x (iv p)) (B ++ [bxO p] ++ [lp .ready]) (fun e T1 H1 => e = .normal ∧ ∃ Z, H1 = B ++ [bxO p] ++ [lp .ready] ++ Z ∧
        Awp Try.prog n (some (A.length + 1)) body T1 (B ++ [bxO p] ++ [lp .busy] ++ Z) (roundE B p lp (I (j + 1)) Rq Eq)))
    (hn : ∀ B, I (pth c.l k0).length B → Q .normal T (B ++ [bxO (-1)] ++ [.dead]))
    (hr : ∀ B p, B.length = A.length → Rq B → Q .ret T (B ++ [bxO p] ++ [.dead]))
    (he : ∀ id B p, B.length = A.length → Eq id B → Q (.exit id) T (B ++ [bxO p] ++ [.dead])) :
    Awp Try.prog n none (.rangeFunc gop #[x] assign body) T (A ++ [bxO k0]) Q := by
  refine Awp.range (k := 111) (cap := [.mptr A.length 0 0, .rptr [treeV c] 0]) hT fun fid D => ?_
  have hAl : (A ++ [bxO (k0 : Int)]).length = A.length + 1 := by simp
  rw [hAl]
  let lp : LoopState → AObj := fun st => .loop st none fid T n #[x] assign body D
  refine ACalls.mono (upLoop c hg hk0 A.length (A.length + 1) (fun j H' => ∃ B, I j B ∧ H' = B ++ [bxO (pathV c.l k0 j)] ++ [lp .ready])
    (fun H' => ∃ B p, B.length = A.length ∧ ((Rq B ∧ H' = B ++ [bxO p] ++ [.loop .done (some .ret) fid T n #[x] assign body D]) ∨ ∃ id, Eq id B ∧ H' = B ++ [bxO p] ++ [.loop .done (some (.exit id)) fid T n #[x] assign body D])) ?_ ?_ _ ?_) ?_
  · rintro j H' ⟨B, hI, rfl⟩
    rw [← hl j B hI]
    exact get_new2 ..
  · rintro j p H' hp ⟨B, hI, rfl⟩
    have hB := hl j B hI
    rw [pathV_at hp]
    have hlp : (B ++ [bxO (p : Int)] ++ [lp .ready])[A.length + 1]? = some (lp .ready) := by rw [← hB]; exact get_snd0 ..
    -- what a round comes to
    have hround : Awp Try.prog n (some (A.length + 1)) assign (setPs T ((#[x] : Array Tmp).toList.zip [iv p])) (B ++ [bxO p] ++ [lp .ready]) (fun e T1 H1 => e = .normal ∧ ∃ Z, H1 = B ++ [bxO p] ++ [lp .ready] ++ Z ∧
        Awp Try.prog n (some (A.length + 1)) body T1 (B ++ [bxO p] ++ [lp .busy] ++ Z) (roundE B p lp (I (j + 1)) Rq Eq)) := hb lp j p B hp hI
    have hpos : ∀ (B' : Hp) (y : AObj), B'.length = A.length → (B' ++ [bxO (p : Int)] ++ [y])[A.length]? = some (bxO p) := fun B' y h => by rw [← h]; exact get_new2 ..
    refine AYield.mono (AYield.of_body hlp rfl (by simpa using hx) (Post := fun v1 H1 => (v1 = bv true ∧ ∃ B', I (j + 1) B' ∧ H1 = B' ++ [bxO (p : Int)] ++ [lp .ready]) ∨ (v1 = bv false ∧ ∃ B' : Hp, B'.length = A.length ∧ ((Rq B' ∧ H1 = B' ++ [bxO (p : Int)] ++ [.loop .done (some .ret) fid T n #[x] assign body D]) ∨ ∃ id, Eq id B' ∧ H1 = B' ++ [bxO (p : Int)] ++ [.loop .done (some (.exit id)) fid T n #[x] assign body D]))) ?_) ?_
    · refine Awp.mono hround fun e T1 H1 ⟨he1, Z, hH1, hbody⟩ => ?_
      subst hH1
      refine ⟨he1, none, fid, T, n, #[x], assign, body, D, by rw [← hB]; exact get_snd .., ?_⟩
      rw [← hB, set_snd, hB]
      refine Awp.mono hbody fun e T2 H2 ⟨B', X, hH2, hL, hpost⟩ => ?_
      subst hH2
      have hB' : B'.length = A.length := by rw [hL.len, hB]
      refine ⟨.busy, none, fid, T, n, #[x], assign, body, D, by rw [← hB']; exact get_snd .., ?_⟩
      cases e with
      | normal =>
        refine ⟨_, ?_, .inl ⟨rfl, B', hpost, rfl⟩⟩
        rw [← hB', set_snd]
        exact Vs.dropTo (by simp [hL.len]) (bel_mid hL (by simp [lp]) (fun _ => bel_lp)) (.val _)
      | ret =>
        refine ⟨_, ?_, .inr ⟨rfl, B', hB', .inl ⟨hpost, rfl⟩⟩⟩
        rw [← hB', set_snd]
        exact Vs.dropTo (by simp [hL.len]) (bel_mid hL (by simp [lp]) (fun _ => bel_lp)) (.val _)
      | exit id =>
        refine ⟨_, ?_, .inr ⟨rfl, B', hB', .inr ⟨id, hpost, rfl⟩⟩⟩
        rw [← hB', set_snd]
        exact Vs.dropTo (by simp [hL.len]) (bel_mid hL (by simp [lp]) (fun _ => bel_lp)) (.val _)
      | _ => exact hpost.elim
    · rintro v1 H1 (⟨rfl, B', hI', rfl⟩ | ⟨rfl, B', hB', h⟩)
      · have hB' := hl _ B' hI'
        refine .inl ⟨rfl, hpos B' _ hB', B', hI', ?_⟩
        rw [← hB', set_new2]; rfl
      · exact .inr ⟨rfl, B', p, hB', h⟩
  · exact ⟨A, h0, by rw [pathV_zero]⟩
  · rintro v H' (⟨B, hI, rfl⟩ | ⟨B, p, hB, (⟨hR, rfl⟩ | ⟨id, hE, rfl⟩)⟩)
    · rw [pathV_end]
      have hB := hl _ B hI
      refine ⟨.ready, none, fid, T, n, _, _, _, D, by rw [← hB]; exact get_snd0 .., by simp, ?_⟩
      rw [← hB, set_snd0]
      exact hn B hI
    · refine ⟨.done, some .ret, fid, T, n, _, _, _, D, by rw [← hB]; exact get_snd0 .., by simp, ?_⟩
      rw [← hB, set_snd0]
      exact Awp.ret (hr B p hB hR)
    · refine ⟨.done, some (.exit id), fid, T, n, _, _, _, D, by rw [← hB]; exact get_snd0 .., by simp, ?_⟩
      rw [← hB, set_snd0]
      exact Awp.exit (he id B p hB hE)

end Go.Proofs.Ytphfdbmbdaninaa.Ab
