/- Cables: the law CableTight. -/
import Derived.Test.YtphfdbmbdaninaaV4
import Derived.Test.YtphfdbmbdaninaaKR
namespace Go.Proofs.Ytphfdbmbdaninaa.Ab
open Go Go.RowKit Go.Proofs
set_option linter.unusedSimpArgs false
set_option linter.unusedVariables false
attribute [local irreducible] Awp wpO thenQ blockQ bodyQ ACalls stepA

theorem rnd_one (u : Bool) (n : Int) : rnd u n 1 = n := by
  unfold rnd
  rw [if_neg (by simp), Int.tdiv_one]

theorem down_eq {n d : Int} (hn : 0 ≤ n) : rnd false n d = n / d := by
  unfold rnd
  rw [if_neg (by simp), Int.tdiv_eq_ediv_of_nonneg hn]
theorem up_eq {n d : Int} (hn : 0 ≤ n) (hd : 1 ≤ d) : rnd true n d = (n + d - 1) / d := by
  unfold rnd
  rw [Int.tdiv_eq_ediv_of_nonneg hn, Int.tmod_eq_emod_of_nonneg hn]
  have h1 := Int.mul_ediv_add_emod n d
  have h3 := Int.emod_nonneg n (show d ≠ 0 by omega)
  have h4 := Int.emod_lt_of_pos n (show 0 < d by omega)
  by_cases h : n % d = 0
  · rw [if_neg (fun k => k.2 h)]
    have e : n + d - 1 = (d - 1) + d * (n / d) := by omega
    rw [e, Int.add_mul_ediv_left _ _ (show d ≠ 0 by omega), Int.ediv_eq_zero_of_lt (a := d - 1) (b := d) (by omega) (by omega)]
    omega
  · rw [if_pos ⟨rfl, h⟩]
    have e : n + d - 1 = (n % d - 1) + d * (n / d + 1) := by rw [Int.mul_add]; omega
    rw [e, Int.add_mul_ediv_left _ _ (show d ≠ 0 by omega), Int.ediv_eq_zero_of_lt (a := n % d - 1) (b := d) (by omega) (by omega)]
    omega

theorem down_mono {n n' d d' : Int} (hn : 0 ≤ n) (h : n ≤ n') (hd : 1 ≤ d') (h' : d' ≤ d) : n / d ≤ n' / d' := by
  have q0 := Int.ediv_nonneg hn (show 0 ≤ d by omega)
  have q1 := Int.ediv_mul_le n (show d ≠ 0 by omega)
  refine (Int.le_ediv_iff_mul_le (show 0 < d' by omega)).2 ?_
  have : n / d * d' ≤ n / d * d := Int.mul_le_mul_of_nonneg_left h' q0
  omega
theorem up_mono {n n' d d' : Int} (hn : 0 ≤ n) (h : n ≤ n') (hd : 1 ≤ d') (h' : d' ≤ d) : (n + d - 1) / d ≤ (n' + d' - 1) / d' := by
  have q0 := Int.ediv_nonneg (show 0 ≤ n' + d' - 1 by omega) (show 0 ≤ d' by omega)
  have h1 := Int.mul_ediv_add_emod (n' + d' - 1) d'
  have h4 := Int.emod_lt_of_pos (n' + d' - 1) (show 0 < d' by omega)
  have h5 : d' * ((n' + d' - 1) / d') ≤ d * ((n' + d' - 1) / d') := Int.mul_le_mul_of_nonneg_right h' q0
  have h6 : (n + d - 1) / d < (n' + d' - 1) / d' + 1 := by
    refine Int.ediv_lt_of_lt_mul (by omega) ?_
    rw [Int.add_mul, Int.mul_comm _ d]
    omega
  omega

theorem minL4 (a b c d : Int) : minL [a, b, c, d] = min (min (min a b) c) d := rfl
theorem maxL4 (a b c d : Int) : maxL [a, b, c, d] = max (max (max a b) c) d := rfl

theorem scale_th {v : Sp} (h : 0 ≤ v.lo) (h' : v.lo ≤ v.hi) : scaleE v 1000 1 = overE ⟨1000 * v.lo, 1000 * v.hi⟩ := by
  unfold scaleE
  simp only [rnd_one]
  have e1 : minL [v.lo * 1000, v.hi * 1000] = 1000 * v.lo := by show min (v.lo * 1000) (v.hi * 1000) = _; omega
  have e2 : maxL [v.lo * 1000, v.hi * 1000] = 1000 * v.hi := by show max (v.lo * 1000) (v.hi * 1000) = _; omega
  rw [e1, e2]

theorem div_th {m : Ms} (h1 : m.v.inR 0 16777216) (h2 : m.b.inR 1 16777216) : divE ⟨1000 * m.v.lo, 1000 * m.v.hi⟩ m.b = overE m.ohms := by
  have k1 := h1.h
  have k2 := h2.h
  have e1 := Int.tdiv_eq_ediv_of_nonneg (a := 1000 * m.v.lo) (b := m.b.hi) (by omega)
  have e2 := Int.tdiv_eq_ediv_of_nonneg (a := 1000 * m.v.hi + m.b.lo - 1) (b := m.b.lo) (by omega)
  have a1 := down_mono (n := 1000 * m.v.lo) (n' := 1000 * m.v.lo) (d := m.b.hi) (d' := m.b.lo) (by omega) (by omega) (by omega) (by omega)
  have a2 := down_mono (n := 1000 * m.v.lo) (n' := 1000 * m.v.hi) (d := m.b.hi) (d' := m.b.lo) (by omega) (by omega) (by omega) (by omega)
  have a3 := down_mono (n := 1000 * m.v.lo) (n' := 1000 * m.v.hi) (d := m.b.hi) (d' := m.b.hi) (by omega) (by omega) (by omega) (by omega)
  have b1 := up_mono (n := 1000 * m.v.lo) (n' := 1000 * m.v.hi) (d := m.b.lo) (d' := m.b.lo) (by omega) (by omega) (by omega) (by omega)
  have b2 := up_mono (n := 1000 * m.v.lo) (n' := 1000 * m.v.hi) (d := m.b.hi) (d' := m.b.lo) (by omega) (by omega) (by omega) (by omega)
  have b3 := up_mono (n := 1000 * m.v.hi) (n' := 1000 * m.v.hi) (d := m.b.hi) (d' := m.b.lo) (by omega) (by omega) (by omega) (by omega)
  unfold divE Ms.ohms
  rw [minL4, maxL4]
  simp only []
  rw [down_eq (by omega), down_eq (by omega), down_eq (by omega), down_eq (by omega), up_eq (by omega) (by omega), up_eq (by omega) (by omega), up_eq (by omega) (by omega), up_eq (by omega) (by omega), e1, e2]
  congr 2
  · omega
  · omega

theorem distE_err {m : Ms} {d : Sp} {e : Int} (h : distE m = (d, e)) (he : e ≠ 0) : d = ⟨0, 0⟩ := by
  unfold distE overE at h
  repeat' split at h
  all_goals cases h
  all_goals first | rfl | exact absurd rfl he

/-- what is so where the distance is known -/
theorem distE_ok {m : Ms} {d : Sp} (h : distE m = (d, 0)) : (m.kind = 1 ∧ m.v.inR 0 16777216 ∧ m.b.inR 1 16777216 ∧ d = m.ohms ∧ ¬ m.ohms.bad = true) ∨ (m.kind = 2 ∧ m.v.inR 0 67108864 ∧ m.b.inR 1 300000 ∧ d = m.echo ∧ ¬ m.echo.bad = true) ∨
    (m.kind = 3 ∧ m.v.inR 0 1073741824 ∧ m.b.inR 0 1073741824 ∧ d = m.far ∧ ¬ m.far.bad = true) := by
  unfold distE overE at h
  split at h
  · rename_i hk
    split at h
    · rename_i hr
      split at h
      · cases h
      · rename_i hb; cases h; exact .inl ⟨hk, hr.1, hr.2, rfl, hb⟩
    · cases h
  · split at h
    · rename_i hk
      split at h
      · rename_i hr
        split at h
        · cases h
        · rename_i hb; cases h; exact .inr (.inl ⟨hk, hr.1, hr.2, rfl, hb⟩)
      · cases h
    · split at h
      · rename_i hk
        split at h
        · rename_i hr
          split at h
          · cases h
          · rename_i hb; cases h; exact .inr (.inr ⟨hk, hr.1, hr.2, rfl, hb⟩)
        · cases h
      · cases h

set_option maxRecDepth 8000 in
set_option maxHeartbeats 2000000 in
theorem CableTight_ok (H : Hp) (m : Ms) : CallsTo Try.prog 11 [.agg m.cs] H (bv true) H := by
  obtain ⟨kind, v, b⟩ := m
  obtain ⟨d, e, hE⟩ : ∃ d e, distE ⟨kind, v, b⟩ = (d, e) := ⟨_, _, rfl⟩
  have hD := fun H => Distance_ok H ⟨kind, v, b⟩
  rw [hE] at hD
  have hf := fine_ok
  by_cases he : e = 0
  · subst he
    rcases distE_ok hE with ⟨hk, h1, h2, rfl, hb⟩ | ⟨hk, h1, h2, rfl, hb⟩ | ⟨hk, h1, h2, rfl, hb⟩
    · obtain rfl : kind = 1 := hk
      have k1 := h1.h
      have k2 := h2.h
      simp only [] at k1 k2
      have hS := fun H => Scale_ok H v 1000 1 h1.1 k1.1 (by omega) (by omega) (by omega) (by omega)
      rw [scale_th k1.1 k1.2.1] at hS
      by_cases hx : (Sp.mk (1000 * v.lo) (1000 * v.hi)).bad = true
      · rw [show overE ⟨1000 * v.lo, 1000 * v.hi⟩ = (⟨0, 0⟩, 4) by unfold overE; rw [if_pos hx]] at hS
        refine ACalls.of_body Try.func11 rfl (by kernel_rfl) (by rw [Try.ntmps11]; simp) ?_; rw [Try.ntmps11]
        repeat' (first | refine spD (fun _ => ?_) (fun _ => ?_) | refine spF (fun _ => ?_) (fun _ => ?_) | (apply gT; (exact rfl)) | (apply off; (exact rfl); (exact rfl)) | (apply condT; (exact rfl)) | (apply condF; (exact rfl)) | ((first | (apply stp0; (exact rfl); (exact rfl)) | (apply stpN0; (exact rfl)) | apply gT | apply condT | ((first | apply bodyQ_d0 | apply bodyQ_d1 | apply bodyQ_d2 | apply bodyQ_d3 | apply bodyQ_d4); (exact .inr rfl); (rw [Try.results11]))); (first | (focus (simp only [go_sem, ↓reduceIte, Nat.reduceEqDiff, Nat.reduceBEq, Nat.reduceAdd, Nat.reduceLeDiff, Nat.reduceMul, Nat.reduceLT, Int.reduceToNat, reduceCtorEq, Int.reduceBEq, Int.reduceBNe, Int.reduceLT, Int.reduceLE, Int.reduceGT, Int.reduceGE, Ms.cs, Sp.cs, si] <;> rfl)) | exact rfl); (first | (fail_if_success (show okD _ _ _ _ _ _ _ _ _)) | (first | exact okT | exact okN | exact okE rfl)); (first | (fail_if_success (show Bel _ _)) | (focus first | exact .val _ | (simp [oneOf, Bel_iff_tup, Bel_iff_agg, Bel_iff_rsl, Bel_iff_fn, Bel_iff_rptr, Bel_val]; done)))) | (apply calTo0; (exact rfl); (iterate 2 (simp only [go_sem, ↓reduceIte, Nat.reduceEqDiff, Nat.reduceBEq, Nat.reduceAdd, Nat.reduceLeDiff, Nat.reduceMul, Nat.reduceLT, Int.reduceToNat, reduceCtorEq, Int.reduceBEq, Int.reduceBNe, Int.reduceLT, Int.reduceLE, Int.reduceGT, Int.reduceGE, Ms.cs, Sp.cs, si]; rfl)); (first | exact hD _ | exact hS _ | exact hf _); (first | exact okT | exact okN | exact okE rfl)) | refine thenQ_n ?_ | refine thenQ_r ?_ | refine thenQ_e ?_ | refine blockQ_n ?_ | refine blockQ_r ?_ | refine blockQ_e ?_ | (apply blockQ_o; (exact rfl)) | refine Awp.seq ?_ | refine Awp.skip ?_ | refine Awp.block ?_ | refine reg (fun s => s == 3 || s == 5 || s == 7 || s == 8) ?_ | (apply drwE mixed (fun s => s == 3 || s == 5 || s == 7 || s == 8); (kernel_rfl)) | refine fin ?_ | refine Awp.ret ?_ | refine Awp.exit ?_ | ((first | (apply off; (exact rfl)) | apply condF); (first | (focus (simp only [go_sem, ↓reduceIte, Nat.reduceEqDiff, Nat.reduceBEq, Nat.reduceAdd, Nat.reduceLeDiff, Nat.reduceMul, Nat.reduceLT, Int.reduceToNat, reduceCtorEq, Int.reduceBEq, Int.reduceBNe, Int.reduceLT, Int.reduceLE, Int.reduceGT, Int.reduceGE, Ms.cs, Sp.cs, si] <;> rfl)) | exact rfl)))
        all_goals first | rfl | skip
      · rw [show overE ⟨1000 * v.lo, 1000 * v.hi⟩ = (⟨1000 * v.lo, 1000 * v.hi⟩, 0) by unfold overE; rw [if_neg hx]] at hS
        have hV := fun H => Div_ok H ⟨1000 * v.lo, 1000 * v.hi⟩ b hx h2.1 (by simp only []; omega) (by omega)
        have hth := div_th h1 h2
        simp only [] at hth
        rw [hth, show overE (Ms.mk 1 v b).ohms = ((Ms.mk 1 v b).ohms, 0) by unfold overE; rw [if_neg hb]] at hV
        refine ACalls.of_body Try.func11 rfl (by kernel_rfl) (by rw [Try.ntmps11]; simp) ?_; rw [Try.ntmps11]
        repeat' (first | refine spD (fun _ => ?_) (fun _ => ?_) | refine spF (fun _ => ?_) (fun _ => ?_) | (apply gT; (exact rfl)) | (apply off; (exact rfl); (exact rfl)) | (apply condT; (exact rfl)) | (apply condF; (exact rfl)) | ((first | (apply stp0; (exact rfl); (exact rfl)) | (apply stpN0; (exact rfl)) | apply gT | apply condT | ((first | apply bodyQ_d0 | apply bodyQ_d1 | apply bodyQ_d2 | apply bodyQ_d3 | apply bodyQ_d4); (exact .inr rfl); (rw [Try.results11]))); (first | (focus (simp only [go_sem, ↓reduceIte, Nat.reduceEqDiff, Nat.reduceBEq, Nat.reduceAdd, Nat.reduceLeDiff, Nat.reduceMul, Nat.reduceLT, Int.reduceToNat, reduceCtorEq, Int.reduceBEq, Int.reduceBNe, Int.reduceLT, Int.reduceLE, Int.reduceGT, Int.reduceGE, Ms.cs, Sp.cs, si] <;> rfl)) | exact rfl); (first | (fail_if_success (show okD _ _ _ _ _ _ _ _ _)) | (first | exact okT | exact okN | exact okE rfl)); (first | (fail_if_success (show Bel _ _)) | (focus first | exact .val _ | (simp [oneOf, Bel_iff_tup, Bel_iff_agg, Bel_iff_rsl, Bel_iff_fn, Bel_iff_rptr, Bel_val]; done)))) | (apply calTo0; (exact rfl); (iterate 2 (simp only [go_sem, ↓reduceIte, Nat.reduceEqDiff, Nat.reduceBEq, Nat.reduceAdd, Nat.reduceLeDiff, Nat.reduceMul, Nat.reduceLT, Int.reduceToNat, reduceCtorEq, Int.reduceBEq, Int.reduceBNe, Int.reduceLT, Int.reduceLE, Int.reduceGT, Int.reduceGE, Ms.cs, Sp.cs, si]; rfl)); (first | exact hD _ | exact hS _ | exact hV _ | exact hf _); (first | exact okT | exact okN | exact okE rfl)) | refine thenQ_n ?_ | refine thenQ_r ?_ | refine thenQ_e ?_ | refine blockQ_n ?_ | refine blockQ_r ?_ | refine blockQ_e ?_ | (apply blockQ_o; (exact rfl)) | refine Awp.seq ?_ | refine Awp.skip ?_ | refine Awp.block ?_ | refine reg (fun s => s == 3 || s == 5 || s == 7 || s == 8) ?_ | (apply drwE mixed (fun s => s == 3 || s == 5 || s == 7 || s == 8); (kernel_rfl)) | refine fin ?_ | refine Awp.ret ?_ | refine Awp.exit ?_ | ((first | (apply off; (exact rfl)) | apply condF); (first | (focus (simp only [go_sem, ↓reduceIte, Nat.reduceEqDiff, Nat.reduceBEq, Nat.reduceAdd, Nat.reduceLeDiff, Nat.reduceMul, Nat.reduceLT, Int.reduceToNat, reduceCtorEq, Int.reduceBEq, Int.reduceBNe, Int.reduceLT, Int.reduceLE, Int.reduceGT, Int.reduceGE, Ms.cs, Sp.cs, si] <;> rfl)) | exact rfl)))
        all_goals first | rfl | skip
    · obtain rfl : kind = 2 := hk
      have k1 := h1.h
      have k2 := h2.h
      simp only [] at k1 k2
      have m1 := mul_in (a := v.lo) (b := b.lo) (A := 67108864) (B := 300000) (by omega) (by omega) (by omega) (by omega)
      have m2 := mul_in (a := v.hi) (b := b.hi) (A := 67108864) (B := 300000) (by omega) (by omega) (by omega) (by omega)
      have w1 := w64 (x := v.lo * b.lo) (by omega) (by omega)
      have w2 := w64 (x := v.hi * b.hi) (by omega) (by omega)
      have e1 := Int.tdiv_eq_ediv_of_nonneg (a := v.lo * b.lo) (b := 2000000) (by omega)
      have e2 := Int.tdiv_eq_ediv_of_nonneg (a := v.hi * b.hi + 2000000 - 1) (b := 2000000) (by omega)
      have w3 := w64 (x := 2000000 * (v.lo * b.lo / 2000000)) (by omega) (by omega)
      have w4 := w64 (x := v.lo * b.lo / 2000000 + 1) (by omega) (by omega)
      have w5 := w64 (x := 2000000 * (v.lo * b.lo / 2000000 + 1)) (by omega) (by omega)
      have w6 := w64 (x := 2000000 * ((v.hi * b.hi + 2000000 - 1) / 2000000)) (by omega) (by omega)
      have w7 := w64 (x := (v.hi * b.hi + 2000000 - 1) / 2000000 - 1) (by omega) (by omega)
      have w8 := w64 (x := 2000000 * ((v.hi * b.hi + 2000000 - 1) / 2000000 - 1)) (by omega) (by omega)
      refine ACalls.of_body Try.func11 rfl (by kernel_rfl) (by rw [Try.ntmps11]; simp) ?_; rw [Try.ntmps11]
      repeat' (first | refine spD (fun _ => ?_) (fun _ => ?_) | refine spF (fun _ => ?_) (fun _ => ?_) | (apply gT; (exact rfl)) | (apply off; (exact rfl); (exact rfl)) | (apply condT; (exact rfl)) | (apply condF; (exact rfl)) | ((first | (apply stp0; (exact rfl); (exact rfl)) | (apply stpN0; (exact rfl)) | apply gT | apply condT | ((first | apply bodyQ_d0 | apply bodyQ_d1 | apply bodyQ_d2 | apply bodyQ_d3 | apply bodyQ_d4); (exact .inr rfl); (rw [Try.results11]))); (first | (focus (simp only [go_sem, ↓reduceIte, Nat.reduceEqDiff, Nat.reduceBEq, Nat.reduceAdd, Nat.reduceLeDiff, Nat.reduceMul, Nat.reduceLT, Int.reduceToNat, reduceCtorEq, Int.reduceBEq, Int.reduceBNe, Int.reduceLT, Int.reduceLE, Int.reduceGT, Int.reduceGE, Ms.cs, Sp.cs, si, w1, w2, Ms.echo, e1, e2, w3, w4, w5, w6, w7, w8] <;> rfl)) | exact rfl); (first | (fail_if_success (show okD _ _ _ _ _ _ _ _ _)) | (first | exact okT | exact okN | exact okE rfl)); (first | (fail_if_success (show Bel _ _)) | (focus first | exact .val _ | (simp [oneOf, Bel_iff_tup, Bel_iff_agg, Bel_iff_rsl, Bel_iff_fn, Bel_iff_rptr, Bel_val]; done)))) | (apply calTo0; (exact rfl); (iterate 2 (simp only [go_sem, ↓reduceIte, Nat.reduceEqDiff, Nat.reduceBEq, Nat.reduceAdd, Nat.reduceLeDiff, Nat.reduceMul, Nat.reduceLT, Int.reduceToNat, reduceCtorEq, Int.reduceBEq, Int.reduceBNe, Int.reduceLT, Int.reduceLE, Int.reduceGT, Int.reduceGE, Ms.cs, Sp.cs, si, w1, w2, Ms.echo, e1, e2, w3, w4, w5, w6, w7, w8]; rfl)); (first | exact hD _ | exact hf _); (first | exact okT | exact okN | exact okE rfl)) | refine thenQ_n ?_ | refine thenQ_r ?_ | refine thenQ_e ?_ | refine blockQ_n ?_ | refine blockQ_r ?_ | refine blockQ_e ?_ | (apply blockQ_o; (exact rfl)) | refine Awp.seq ?_ | refine Awp.skip ?_ | refine Awp.block ?_ | refine reg (fun s => s == 3 || s == 5 || s == 7 || s == 8) ?_ | (apply drwE mixed (fun s => s == 3 || s == 5 || s == 7 || s == 8); (kernel_rfl)) | refine fin ?_ | refine Awp.ret ?_ | refine Awp.exit ?_ | ((first | (apply off; (exact rfl)) | apply condF); (first | (focus (simp only [go_sem, ↓reduceIte, Nat.reduceEqDiff, Nat.reduceBEq, Nat.reduceAdd, Nat.reduceLeDiff, Nat.reduceMul, Nat.reduceLT, Int.reduceToNat, reduceCtorEq, Int.reduceBEq, Int.reduceBNe, Int.reduceLT, Int.reduceLE, Int.reduceGT, Int.reduceGE, Ms.cs, Sp.cs, si, w1, w2, Ms.echo, e1, e2, w3, w4, w5, w6, w7, w8] <;> rfl)) | exact rfl)))
      all_goals first | rfl | (exfalso; omega)
    · obtain rfl : kind = 3 := hk
      have hS := fun H => Sub_ok H b v
      rw [show subE b v = ((Ms.mk 3 v b).far, 0) by unfold subE; rw [if_neg (by simp [h1.1, h2.1])]; unfold overE; exact if_neg hb] at hS
      refine ACalls.of_body Try.func11 rfl (by kernel_rfl) (by rw [Try.ntmps11]; simp) ?_; rw [Try.ntmps11]
      repeat' (first | refine spD (fun _ => ?_) (fun _ => ?_) | refine spF (fun _ => ?_) (fun _ => ?_) | (apply gT; (exact rfl)) | (apply off; (exact rfl); (exact rfl)) | (apply condT; (exact rfl)) | (apply condF; (exact rfl)) | ((first | (apply stp0; (exact rfl); (exact rfl)) | (apply stpN0; (exact rfl)) | apply gT | apply condT | ((first | apply bodyQ_d0 | apply bodyQ_d1 | apply bodyQ_d2 | apply bodyQ_d3 | apply bodyQ_d4); (exact .inr rfl); (rw [Try.results11]))); (first | (focus (simp only [go_sem, ↓reduceIte, Nat.reduceEqDiff, Nat.reduceBEq, Nat.reduceAdd, Nat.reduceLeDiff, Nat.reduceMul, Nat.reduceLT, Int.reduceToNat, reduceCtorEq, Int.reduceBEq, Int.reduceBNe, Int.reduceLT, Int.reduceLE, Int.reduceGT, Int.reduceGE, Ms.cs, Sp.cs, si] <;> rfl)) | exact rfl); (first | (fail_if_success (show okD _ _ _ _ _ _ _ _ _)) | (first | exact okT | exact okN | exact okE rfl)); (first | (fail_if_success (show Bel _ _)) | (focus first | exact .val _ | (simp [oneOf, Bel_iff_tup, Bel_iff_agg, Bel_iff_rsl, Bel_iff_fn, Bel_iff_rptr, Bel_val]; done)))) | (apply calTo0; (exact rfl); (iterate 2 (simp only [go_sem, ↓reduceIte, Nat.reduceEqDiff, Nat.reduceBEq, Nat.reduceAdd, Nat.reduceLeDiff, Nat.reduceMul, Nat.reduceLT, Int.reduceToNat, reduceCtorEq, Int.reduceBEq, Int.reduceBNe, Int.reduceLT, Int.reduceLE, Int.reduceGT, Int.reduceGE, Ms.cs, Sp.cs, si]; rfl)); (first | exact hD _ | exact hS _ | exact hf _); (first | exact okT | exact okN | exact okE rfl)) | refine thenQ_n ?_ | refine thenQ_r ?_ | refine thenQ_e ?_ | refine blockQ_n ?_ | refine blockQ_r ?_ | refine blockQ_e ?_ | (apply blockQ_o; (exact rfl)) | refine Awp.seq ?_ | refine Awp.skip ?_ | refine Awp.block ?_ | refine reg (fun s => s == 3 || s == 5 || s == 7 || s == 8) ?_ | (apply drwE mixed (fun s => s == 3 || s == 5 || s == 7 || s == 8); (kernel_rfl)) | refine fin ?_ | refine Awp.ret ?_ | refine Awp.exit ?_ | ((first | (apply off; (exact rfl)) | apply condF); (first | (focus (simp only [go_sem, ↓reduceIte, Nat.reduceEqDiff, Nat.reduceBEq, Nat.reduceAdd, Nat.reduceLeDiff, Nat.reduceMul, Nat.reduceLT, Int.reduceToNat, reduceCtorEq, Int.reduceBEq, Int.reduceBNe, Int.reduceLT, Int.reduceLE, Int.reduceGT, Int.reduceGE, Ms.cs, Sp.cs, si] <;> rfl)) | exact rfl)))
      all_goals first | rfl | skip
  · obtain rfl := distE_err hE he
    refine ACalls.of_body Try.func11 rfl (by kernel_rfl) (by rw [Try.ntmps11]; simp) ?_; rw [Try.ntmps11]
    repeat' (first | refine spD (fun _ => ?_) (fun _ => ?_) | refine spF (fun _ => ?_) (fun _ => ?_) | (apply gT; (exact rfl)) | (apply off; (exact rfl); (exact rfl)) | (apply condT; (exact rfl)) | (apply condF; (exact rfl)) | ((first | (apply stp0; (exact rfl); (exact rfl)) | (apply stpN0; (exact rfl)) | apply gT | apply condT | ((first | apply bodyQ_d0 | apply bodyQ_d1 | apply bodyQ_d2 | apply bodyQ_d3 | apply bodyQ_d4); (exact .inr rfl); (rw [Try.results11]))); (first | (focus (simp only [go_sem, ↓reduceIte, Nat.reduceEqDiff, Nat.reduceBEq, Nat.reduceAdd, Nat.reduceLeDiff, Nat.reduceMul, Nat.reduceLT, Int.reduceToNat, reduceCtorEq, Int.reduceBEq, Int.reduceBNe, Int.reduceLT, Int.reduceLE, Int.reduceGT, Int.reduceGE, Ms.cs, Sp.cs, si] <;> rfl)) | exact rfl); (first | (fail_if_success (show okD _ _ _ _ _ _ _ _ _)) | (first | exact okT | exact okN | exact okE rfl)); (first | (fail_if_success (show Bel _ _)) | (focus first | exact .val _ | (simp [oneOf, Bel_iff_tup, Bel_iff_agg, Bel_iff_rsl, Bel_iff_fn, Bel_iff_rptr, Bel_val]; done)))) | (apply calTo0; (exact rfl); (iterate 2 (simp only [go_sem, ↓reduceIte, Nat.reduceEqDiff, Nat.reduceBEq, Nat.reduceAdd, Nat.reduceLeDiff, Nat.reduceMul, Nat.reduceLT, Int.reduceToNat, reduceCtorEq, Int.reduceBEq, Int.reduceBNe, Int.reduceLT, Int.reduceLE, Int.reduceGT, Int.reduceGE, Ms.cs, Sp.cs, si]; rfl)); (first | exact hD _ | exact hf _); (first | exact okT | exact okN | exact okE rfl)) | refine thenQ_n ?_ | refine thenQ_r ?_ | refine thenQ_e ?_ | refine blockQ_n ?_ | refine blockQ_r ?_ | refine blockQ_e ?_ | (apply blockQ_o; (exact rfl)) | refine Awp.seq ?_ | refine Awp.skip ?_ | refine Awp.block ?_ | refine reg (fun s => s == 3 || s == 5 || s == 7 || s == 8) ?_ | (apply drwE mixed (fun s => s == 3 || s == 5 || s == 7 || s == 8); (kernel_rfl)) | refine fin ?_ | refine Awp.ret ?_ | refine Awp.exit ?_ | ((first | (apply off; (exact rfl)) | apply condF); (first | (focus (simp only [go_sem, ↓reduceIte, Nat.reduceEqDiff, Nat.reduceBEq, Nat.reduceAdd, Nat.reduceLeDiff, Nat.reduceMul, Nat.reduceLT, Int.reduceToNat, reduceCtorEq, Int.reduceBEq, Int.reduceBNe, Int.reduceLT, Int.reduceLE, Int.reduceGT, Int.reduceGE, Ms.cs, Sp.cs, si] <;> rfl)) | exact rfl)))
    all_goals first | rfl | (exfalso; exact he (by assumption))

theorem msFit (x : List AV) (h : Fits [I, I, I, I, I] x) : ∃ m : Ms, x = m.cs := by
  obtain ⟨a, _, rfl, _, h⟩ := fitK h
  obtain ⟨b, _, rfl, _, h⟩ := fitK h
  obtain ⟨c, _, rfl, _, h⟩ := fitK h
  obtain ⟨d, _, rfl, _, h⟩ := fitK h
  obtain ⟨e, _, rfl, _, h⟩ := fitK h
  obtain rfl := fit0 h
  exact ⟨⟨a, ⟨b, c⟩, ⟨d, e⟩⟩, rfl⟩

def sh11 : List (Bool × List Sh) := [(true, [I, I, I, I, I])]
theorem law11 : ∀ xs, ArgsFit sh11 xs → ACalls Try.prog 11 xs [] fun v _ => v = .val (.bool true) := by
  intro xs h0
  obtain ⟨bs, l, rfl, h1, h2⟩ := argT h0
  obtain ⟨m, rfl⟩ := msFit bs h1
  obtain rfl := arg0 h2
  exact (CableTight_ok [] m).mono fun v H' h => h.1

end Go.Proofs.Ytphfdbmbdaninaa.Ab
