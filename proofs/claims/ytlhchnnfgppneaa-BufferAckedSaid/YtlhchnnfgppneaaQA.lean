/- The program's check of one span. -/
import Derived.Test.YtlhchnnfgppneaaQ9
namespace Go.Proofs.Ytlhchnnfgppneaa.Ab
open Go Go.RowKit Go.Proofs
set_option linter.unusedSimpArgs false
set_option linter.unusedVariables false
attribute [local irreducible] Awp wpO thenQ blockQ bodyQ ACalls stepA

theorem vldB_iff {p : Int × Int} : vldB p = true ↔ ¬ p.1 > p.2 ∧ ¬ p.1 < -1073741824 ∧ ¬ p.2 > 1073741824 := by
  unfold vldB wthB
  simp only [Bool.and_eq_true, decide_eq_true_eq]
  omega

set_option maxRecDepth 8000 in
theorem bchk_ok (H : Hp) (p : Int × Int) : CallsTo Try.prog 89 [.rsl [[iv p.1, iv p.2]] true] H (iv (if vldB p = true then 0 else 2)) H := by
  refine ACalls.of_body Try.func89 rfl (by kernel_rfl) (by rw [Try.ntmps89]; simp) ?_; rw [Try.ntmps89]
  repeat' (first | refine spD (fun _ => ?_) (fun _ => ?_) | refine spF (fun _ => ?_) (fun _ => ?_) | (apply gT; (exact rfl)) | (apply off; (exact rfl); (exact rfl)) | (apply condT; (exact rfl)) | (apply condF; (exact rfl)) | ((first | (apply stp0; (exact rfl); (exact rfl)) | (apply stpN0; (exact rfl)) | apply gT | apply condT | ((first | apply bodyQ_d0 | apply bodyQ_d1 | apply bodyQ_d2 | apply bodyQ_d3 | apply bodyQ_d4); (exact .inr rfl); (rw [Try.results89]))); (first | (focus (simp only [go_sem, ↓reduceIte, simprocAttr] <;> rfl)) | exact rfl); (first | (fail_if_success (show okD _ _ _ _ _ _ _ _ _)) | (first | exact okT | exact okN | exact okE rfl)); (first | (fail_if_success (show Bel _ _)) | (focus first | exact .val _ | (simp [oneOf, Bel_iff_tup, Bel_iff_agg, Bel_iff_rsl, Bel_iff_fn, Bel_iff_rptr, Bel_val]; done)))) | refine thenQ_n ?_ | refine thenQ_r ?_ | refine thenQ_e ?_ | refine blockQ_n ?_ | refine blockQ_r ?_ | refine blockQ_e ?_ | (apply blockQ_o; (exact rfl)) | refine Awp.seq ?_ | refine Awp.skip ?_ | refine Awp.block ?_ | refine reg (fun s => s == 4) ?_ | (apply drwE mixed (fun s => s == 4); (kernel_rfl)) | refine fin ?_ | refine Awp.ret ?_ | refine Awp.exit ?_ | ((first | (apply off; (exact rfl)) | apply condF); (first | (focus (simp only [go_sem, ↓reduceIte, simprocAttr] <;> rfl)) | exact rfl)))
  all_goals first | contradiction | (exfalso; omega) | skip
  refine Awp.loop (ι := Nat) (fun i T' K => i ≤ 1 ∧ T' 6 = iv 1 ∧ T' 7 = iv i ∧ T' 5 = .rsl [[iv p.1, iv p.2]] true ∧ Grow H K ∧ (i = 1 → vldB p = true)) (fun i => 1 - i) 0 ?_ ?_
  · refine ⟨Nat.zero_le _, ?_, ?_, ?_, Grow.refl _, fun h => by omega⟩
    · (first | (focus (simp only [go_sem, ↓reduceIte, simprocAttr]; first | done | rfl)) | rfl)
    · (first | (focus (simp only [go_sem, ↓reduceIte, simprocAttr]; first | done | rfl)) | rfl)
    · (first | (focus (simp only [go_sem, ↓reduceIte, simprocAttr]; first | done | rfl)) | rfl)
  rintro i T K ⟨hi, t6, t7, t5, hG, hv⟩
  cases i with
  | zero =>
    have h01 : ((0 : Nat) : Int) < 1 := by omega
    have hsu : IntKind.i64.wrap (((0 : Nat) : Int) + 1) = ((1 : Nat) : Int) := by kernel_rfl
    by_cases e1 : p.1 > p.2
    · rw [if_neg (fun h => (vldB_iff.1 h).1 e1)]
      repeat' (first | refine spD (fun _ => ?_) (fun _ => ?_) | refine spF (fun _ => ?_) (fun _ => ?_) | (apply gT; (exact rfl)) | (apply off; (exact rfl); (exact rfl)) | (apply condT; (exact rfl)) | (apply condF; (exact rfl)) | ((first | (apply stp0; (exact rfl); (exact rfl)) | (apply stpN0; (exact rfl)) | apply gT | apply condT); (first | (focus (simp only [go_sem, ↓reduceIte, simprocAttr, h01, t6, t7, t5, e1] <;> rfl)) | exact rfl); (first | (fail_if_success (show okD _ _ _ _ _ _ _ _ _)) | (first | exact okT | exact okN | exact okE rfl))) | refine thenQ_n ?_ | refine thenQ_r ?_ | refine thenQ_e ?_ | refine blockQ_n ?_ | refine blockQ_r ?_ | refine blockQ_e ?_ | (apply blockQ_o; (exact rfl)) | refine Awp.seq ?_ | refine Awp.skip ?_ | refine Awp.block ?_ | refine reg (fun s => s == 4) ?_ | (apply drwE mixed (fun s => s == 4); (kernel_rfl)) | refine fin ?_ | refine Awp.ret ?_ | refine Awp.exit ?_ | ((first | (apply off; (exact rfl)) | apply condF); (first | (focus (simp only [go_sem, ↓reduceIte, simprocAttr, h01, t6, t7, t5, e1] <;> rfl)) | exact rfl)))
      all_goals first | contradiction | (exfalso; omega) | skip
      exact bodyQ_sameG (vs := [iv 2]) (.inr rfl) (by rw [Try.results89]; simp only [go_sem, ↓reduceIte, simprocAttr]) (hG.app _) (.val _) rfl
    · by_cases e2 : p.1 < -1073741824
      · rw [if_neg (fun h => (vldB_iff.1 h).2.1 e2)]
        repeat' (first | refine spD (fun _ => ?_) (fun _ => ?_) | refine spF (fun _ => ?_) (fun _ => ?_) | (apply gT; (exact rfl)) | (apply off; (exact rfl); (exact rfl)) | (apply condT; (exact rfl)) | (apply condF; (exact rfl)) | ((first | (apply stp0; (exact rfl); (exact rfl)) | (apply stpN0; (exact rfl)) | apply gT | apply condT); (first | (focus (simp only [go_sem, ↓reduceIte, simprocAttr, h01, t6, t7, t5, e1, e2] <;> rfl)) | exact rfl); (first | (fail_if_success (show okD _ _ _ _ _ _ _ _ _)) | (first | exact okT | exact okN | exact okE rfl))) | refine thenQ_n ?_ | refine thenQ_r ?_ | refine thenQ_e ?_ | refine blockQ_n ?_ | refine blockQ_r ?_ | refine blockQ_e ?_ | (apply blockQ_o; (exact rfl)) | refine Awp.seq ?_ | refine Awp.skip ?_ | refine Awp.block ?_ | refine reg (fun s => s == 4) ?_ | (apply drwE mixed (fun s => s == 4); (kernel_rfl)) | refine fin ?_ | refine Awp.ret ?_ | refine Awp.exit ?_ | ((first | (apply off; (exact rfl)) | apply condF); (first | (focus (simp only [go_sem, ↓reduceIte, simprocAttr, h01, t6, t7, t5, e1, e2] <;> rfl)) | exact rfl)))
        all_goals first | contradiction | (exfalso; omega) | skip
        exact bodyQ_sameG (vs := [iv 2]) (.inr rfl) (by rw [Try.results89]; simp only [go_sem, ↓reduceIte, simprocAttr]) (hG.app _) (.val _) rfl
      · by_cases e3 : p.2 > 1073741824
        · rw [if_neg (fun h => (vldB_iff.1 h).2.2 e3)]
          repeat' (first | refine spD (fun _ => ?_) (fun _ => ?_) | refine spF (fun _ => ?_) (fun _ => ?_) | (apply gT; (exact rfl)) | (apply off; (exact rfl); (exact rfl)) | (apply condT; (exact rfl)) | (apply condF; (exact rfl)) | ((first | (apply stp0; (exact rfl); (exact rfl)) | (apply stpN0; (exact rfl)) | apply gT | apply condT); (first | (focus (simp only [go_sem, ↓reduceIte, simprocAttr, h01, t6, t7, t5, e1, e2, e3] <;> rfl)) | exact rfl); (first | (fail_if_success (show okD _ _ _ _ _ _ _ _ _)) | (first | exact okT | exact okN | exact okE rfl))) | refine thenQ_n ?_ | refine thenQ_r ?_ | refine thenQ_e ?_ | refine blockQ_n ?_ | refine blockQ_r ?_ | refine blockQ_e ?_ | (apply blockQ_o; (exact rfl)) | refine Awp.seq ?_ | refine Awp.skip ?_ | refine Awp.block ?_ | refine reg (fun s => s == 4) ?_ | (apply drwE mixed (fun s => s == 4); (kernel_rfl)) | refine fin ?_ | refine Awp.ret ?_ | refine Awp.exit ?_ | ((first | (apply off; (exact rfl)) | apply condF); (first | (focus (simp only [go_sem, ↓reduceIte, simprocAttr, h01, t6, t7, t5, e1, e2, e3] <;> rfl)) | exact rfl)))
          all_goals first | contradiction | (exfalso; omega) | skip
          exact bodyQ_sameG (vs := [iv 2]) (.inr rfl) (by rw [Try.results89]; simp only [go_sem, ↓reduceIte, simprocAttr]) (hG.app _) (.val _) rfl
        · have hv := vldB_iff.2 ⟨e1, e2, e3⟩
          repeat' (first | refine spD (fun _ => ?_) (fun _ => ?_) | refine spF (fun _ => ?_) (fun _ => ?_) | (apply gT; (exact rfl)) | (apply off; (exact rfl); (exact rfl)) | (apply condT; (exact rfl)) | (apply condF; (exact rfl)) | ((first | (apply stp0; (exact rfl); (exact rfl)) | (apply stpN0; (exact rfl)) | apply gT | apply condT | ((first | apply bodyQ_d0 | apply bodyQ_d1 | apply bodyQ_d2 | apply bodyQ_d3 | apply bodyQ_d4); (exact .inr rfl); (rw [Try.results89]))); (first | (focus (simp only [go_sem, ↓reduceIte, simprocAttr, h01, t6, t7, t5, e1, e2, e3, hsu] <;> rfl)) | exact rfl); (first | (fail_if_success (show okD _ _ _ _ _ _ _ _ _)) | (first | exact okT | exact okN | exact okE rfl)); (first | (fail_if_success (show Bel _ _)) | (focus first | exact .val _ | (simp [oneOf, Bel_iff_tup, Bel_iff_agg, Bel_iff_rsl, Bel_iff_fn, Bel_iff_rptr, Bel_val]; done)))) | refine thenQ_n ?_ | refine thenQ_r ?_ | refine thenQ_e ?_ | refine blockQ_n ?_ | refine blockQ_r ?_ | refine blockQ_e ?_ | (apply blockQ_o; (exact rfl)) | refine Awp.seq ?_ | refine Awp.skip ?_ | refine Awp.block ?_ | refine reg (fun s => s == 4) ?_ | (apply drwE mixed (fun s => s == 4); (kernel_rfl)) | refine fin ?_ | refine Awp.ret ?_ | refine Awp.exit ?_ | ((first | (apply off; (exact rfl)) | apply condF); (first | (focus (simp only [go_sem, ↓reduceIte, simprocAttr, h01, t6, t7, t5, e1, e2, e3, hsu] <;> rfl)) | exact rfl)))
          all_goals first | contradiction | (exfalso; omega) | skip
          refine ⟨1, ⟨Nat.le_refl _, ?_, ?_, ?_, hG.app _, fun _ => hv⟩, by omega⟩
          · (first | (focus (simp only [go_sem, ↓reduceIte, simprocAttr, t6]; first | done | rfl)) | rfl)
          · (first | (focus (simp only [go_sem, ↓reduceIte, simprocAttr, hsu]; first | done | rfl)) | rfl)
          · (first | (focus (simp only [go_sem, ↓reduceIte, simprocAttr, t5]; first | done | rfl)) | rfl)
  | succ j =>
    have hj : j = 0 := by omega
    subst hj
    have h11 : ¬ ((0 + 1 : Nat) : Int) < 1 := by omega
    rw [if_pos (hv rfl)]
    repeat' (first | refine spD (fun _ => ?_) (fun _ => ?_) | refine spF (fun _ => ?_) (fun _ => ?_) | (apply gT; (exact rfl)) | (apply off; (exact rfl); (exact rfl)) | (apply condT; (exact rfl)) | (apply condF; (exact rfl)) | ((first | (apply stp0; (exact rfl); (exact rfl)) | (apply stpN0; (exact rfl)) | apply gT | apply condT); (first | (focus (simp only [go_sem, ↓reduceIte, simprocAttr, h11, t6, t7, t5] <;> rfl)) | exact rfl); (first | (fail_if_success (show okD _ _ _ _ _ _ _ _ _)) | (first | exact okT | exact okN | exact okE rfl))) | refine thenQ_n ?_ | refine thenQ_r ?_ | refine thenQ_e ?_ | refine blockQ_n ?_ | refine blockQ_r ?_ | refine blockQ_e ?_ | (apply blockQ_o; (exact rfl)) | refine Awp.seq ?_ | refine Awp.skip ?_ | refine Awp.block ?_ | refine reg (fun s => s == 4) ?_ | (apply drwE mixed (fun s => s == 4); (kernel_rfl)) | refine fin ?_ | refine Awp.ret ?_ | refine Awp.exit ?_ | ((first | (apply off; (exact rfl)) | apply condF); (first | (focus (simp only [go_sem, ↓reduceIte, simprocAttr, h11, t6, t7, t5] <;> rfl)) | exact rfl)))
    all_goals first | contradiction | (exfalso; omega) | skip
    exact bodyQ_sameG (vs := [iv 0]) (.inr rfl) (by rw [Try.results89]; simp only [go_sem, ↓reduceIte, simprocAttr]) hG (.val _) rfl

end Go.Proofs.Ytlhchnnfgppneaa.Ab
