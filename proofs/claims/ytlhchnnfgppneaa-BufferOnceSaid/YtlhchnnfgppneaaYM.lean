/- The program's CheckSet. The program's Has. Acknowledgements: what they contain; Count. Count; the acknowledgement is a normal set. Buffers: small functions of the laws. Buffers: what Put keeps, plain. The program's Ack, its closure. -/
import Derived.Test.YtlhchnnfgppneaaYL
namespace Go.Proofs.Ytlhchnnfgppneaa.Ab
open Go Go.RowKit Go.Proofs
set_option linter.unusedSimpArgs false
set_option linter.unusedVariables false
attribute [local irreducible] Awp wpO thenQ blockQ bodyQ ACalls stepA

set_option maxRecDepth 8000 in
set_option maxHeartbeats 2000000 in
theorem bcheckSet_ok (H : Hp) (s : List (Int × Int)) (ex : Bool) : CallsTo Try.prog 49 [.rsl (sps s) ex] H (iv (setC s)) H := by
  have hvl := sps_len s
  unfold setC
  by_cases h6 : (s.length : Int) > 256
  · rw [if_pos h6]
    refine ACalls.of_body Try.func49 rfl (by kernel_rfl) (by rw [Try.ntmps49]; simp) ?_; rw [Try.ntmps49]
    repeat' (first | refine spD (fun _ => ?_) (fun _ => ?_) | refine spF (fun _ => ?_) (fun _ => ?_) | (apply gT; (exact rfl)) | (apply off; (exact rfl); (exact rfl)) | (apply condT; (exact rfl)) | (apply condF; (exact rfl)) | ((first | (apply stp0; (exact rfl); (exact rfl)) | (apply stpN0; (exact rfl)) | apply gT | apply condT | ((first | apply bodyQ_d0 | apply bodyQ_d1 | apply bodyQ_d2 | apply bodyQ_d3 | apply bodyQ_d4); (exact .inr rfl); (rw [Try.results49]))); (first | (focus (simp only [go_sem, ↓reduceIte, simprocAttr, hvl, h6] <;> rfl)) | exact rfl); (first | (fail_if_success (show okD _ _ _ _ _ _ _ _ _)) | (first | exact okT | exact okN | exact okE rfl)); (first | (fail_if_success (show Bel _ _)) | (focus first | exact .val _ | (simp [oneOf, Bel_iff_tup, Bel_iff_agg, Bel_iff_rsl, Bel_iff_fn, Bel_iff_rptr, Bel_val]; done)))) | refine thenQ_n ?_ | refine thenQ_r ?_ | refine thenQ_e ?_ | refine blockQ_n ?_ | refine blockQ_r ?_ | refine blockQ_e ?_ | (apply blockQ_o; (exact rfl)) | refine Awp.seq ?_ | refine Awp.skip ?_ | refine Awp.block ?_ | refine reg (fun s => s == 4) ?_ | (apply drwE mixed (fun s => s == 4); (kernel_rfl)) | refine fin ?_ | refine Awp.ret ?_ | refine Awp.exit ?_ | ((first | (apply off; (exact rfl)) | apply condF); (first | (focus (simp only [go_sem, ↓reduceIte, simprocAttr, hvl, h6] <;> rfl)) | exact rfl)))
    all_goals first | contradiction | (exfalso; omega) | rfl | skip
  · rw [if_neg h6]
    have hm : s.length ≤ maxLen := by simp only [maxLen]; omega
    refine ACalls.of_body Try.func49 rfl (by kernel_rfl) (by rw [Try.ntmps49]; simp) ?_; rw [Try.ntmps49]
    repeat' (first | refine spD (fun _ => ?_) (fun _ => ?_) | refine spF (fun _ => ?_) (fun _ => ?_) | (apply gT; (exact rfl)) | (apply off; (exact rfl); (exact rfl)) | (apply condT; (exact rfl)) | (apply condF; (exact rfl)) | ((first | (apply stp0; (exact rfl); (exact rfl)) | (apply stpN0; (exact rfl)) | apply gT | apply condT | ((first | apply bodyQ_d0 | apply bodyQ_d1 | apply bodyQ_d2 | apply bodyQ_d3 | apply bodyQ_d4); (exact .inr rfl); (rw [Try.results49]))); (first | (focus (simp only [go_sem, ↓reduceIte, simprocAttr, hvl, h6] <;> rfl)) | exact rfl); (first | (fail_if_success (show okD _ _ _ _ _ _ _ _ _)) | (first | exact okT | exact okN | exact okE rfl)); (first | (fail_if_success (show Bel _ _)) | (focus first | exact .val _ | (simp [oneOf, Bel_iff_tup, Bel_iff_agg, Bel_iff_rsl, Bel_iff_fn, Bel_iff_rptr, Bel_val]; done)))) | refine thenQ_n ?_ | refine thenQ_r ?_ | refine thenQ_e ?_ | refine blockQ_n ?_ | refine blockQ_r ?_ | refine blockQ_e ?_ | (apply blockQ_o; (exact rfl)) | refine Awp.seq ?_ | refine Awp.skip ?_ | refine Awp.block ?_ | refine reg (fun s => s == 4) ?_ | (apply drwE mixed (fun s => s == 4); (kernel_rfl)) | refine fin ?_ | refine Awp.ret ?_ | refine Awp.exit ?_ | ((first | (apply off; (exact rfl)) | apply condF); (first | (focus (simp only [go_sem, ↓reduceIte, simprocAttr, hvl, h6] <;> rfl)) | exact rfl)))
    all_goals first | contradiction | (exfalso; omega) | skip
    refine Awp.loop (ι := Nat) (fun i T' K => i ≤ s.length ∧ T' 10 = iv i ∧ T' 9 = iv s.length ∧ T' 8 = .rsl (sps s) ex ∧ T' 0 = .rsl (sps s) ex ∧ Grow H K ∧ setB none s = setB (prvS s i) (s.drop i) ∧ ∀ p, prvS s i = some p → vldB p = true) (fun i => s.length - i) 0 ?_ ?_
    · refine ⟨Nat.zero_le _, ?_, ?_, ?_, ?_, Grow.refl _, by rw [List.drop_zero]; rfl, fun p e => by cases e⟩
      · (first | (focus (simp only [go_sem, ↓reduceIte, simprocAttr]; first | done | rfl)) | rfl)
      · (first | (focus (simp only [go_sem, ↓reduceIte, simprocAttr]; first | done | rfl)) | rfl)
      · (first | (focus (simp only [go_sem, ↓reduceIte, simprocAttr]; first | done | rfl)) | rfl)
      · (first | (focus (simp only [go_sem, ↓reduceIte, simprocAttr]; first | done | rfl)) | rfl)
    rintro i T K ⟨hi, t10, t9, t8, t0, hG, hf, hpv⟩
    by_cases hlt : i < s.length
    · obtain ⟨p, hp⟩ := nth hlt
      have hc := sps_at hp
      have hsu := wsucc hlt hm
      have hw := fun H => bchk_ok H p
      have hlt' := Int.ofNat_lt.2 hlt
      rw [setB_drop hp] at hf
      repeat' ((fail_if_success (apply stopR (id := 6))); (fail_if_success (apply stopS (id := 6))); first | refine spD (fun _ => ?_) (fun _ => ?_) | refine spF (fun _ => ?_) (fun _ => ?_) | (apply gT; (exact rfl)) | (apply off; (exact rfl); (exact rfl)) | (apply condT; (exact rfl)) | (apply condF; (exact rfl)) | ((first | (apply stp0; (exact rfl); (exact rfl)) | (apply stpN0; (exact rfl)) | apply gT | apply condT | ((first | apply bodyQ_d0 | apply bodyQ_d1 | apply bodyQ_d2 | apply bodyQ_d3 | apply bodyQ_d4); (exact .inr rfl); (rw [Try.results49]))); (first | (focus (simp only [go_sem, ↓reduceIte, simprocAttr, hlt', t10, t9, t8, t0, hvl, hc] <;> rfl)) | exact rfl); (first | (fail_if_success (show okD _ _ _ _ _ _ _ _ _)) | (first | exact okT | exact okN | exact okE rfl)); (first | (fail_if_success (show Bel _ _)) | (focus first | exact .val _ | (simp [oneOf, Bel_iff_tup, Bel_iff_agg, Bel_iff_rsl, Bel_iff_fn, Bel_iff_rptr, Bel_val]; done)))) | refine thenQ_n ?_ | refine thenQ_r ?_ | refine thenQ_e ?_ | refine blockQ_n ?_ | refine blockQ_r ?_ | refine blockQ_e ?_ | (apply blockQ_o; (exact rfl)) | refine Awp.seq ?_ | refine Awp.skip ?_ | refine Awp.block ?_ | refine reg (fun s => s == 4) ?_ | (apply drwE mixed (fun s => s == 4); (kernel_rfl)) | refine fin ?_ | refine Awp.ret ?_ | refine Awp.exit ?_ | ((first | (apply off; (exact rfl)) | apply condF); (first | (focus (simp only [go_sem, ↓reduceIte, simprocAttr, hlt', t10, t9, t8, t0, hvl, hc] <;> rfl)) | exact rfl)))
      all_goals first | contradiction | (exfalso; omega) | skip
      refine Awp.withT (fun T' => T' 10 = iv i ∧ T' 9 = iv s.length ∧ T' 8 = .rsl (sps s) ex ∧ T' 0 = .rsl (sps s) ex ∧ T' 3 = iv i ∧ T' 4 = .mptr K.length 0 0) ⟨?_, ?_, ?_, ?_, ?_, ?_⟩ ?_
      · (first | (focus (simp only [go_sem, ↓reduceIte, simprocAttr, t10]; first | done | rfl)) | rfl)
      · (first | (focus (simp only [go_sem, ↓reduceIte, simprocAttr, t9]; first | done | rfl)) | rfl)
      · (first | (focus (simp only [go_sem, ↓reduceIte, simprocAttr, t8]; first | done | rfl)) | rfl)
      · (first | (focus (simp only [go_sem, ↓reduceIte, simprocAttr, t0]; first | done | rfl)) | rfl)
      · (first | (focus (simp only [go_sem, ↓reduceIte, simprocAttr, t10]; first | done | rfl)) | rfl)
      · (first | (focus (simp only [go_sem, ↓reduceIte, simprocAttr]; first | done | rfl)) | rfl)
      clear t10 t9 t8 t0 T
      rintro T ⟨t10, t9, t8, t0, t3, t4⟩
      have h4 := get_new K (.cells [[iv p.1, iv p.2]] 70)
      have hG2 := hG.app [.cells [[iv p.1, iv p.2]] 70]
      generalize K ++ [AObj.cells [[iv p.1, iv p.2]] 70] = K2 at *
      generalize K.length = x at *
      clear hG K
      cases e : vldB p with
      | false =>
        simp only [e, Bool.false_eq_true, if_false] at hw hf
        rw [Bool.false_and, Bool.false_and] at hf
        rw [hf, if_neg (by simp)]
        repeat' (first | refine spD (fun _ => ?_) (fun _ => ?_) | refine spF (fun _ => ?_) (fun _ => ?_) | (apply gT; (exact rfl)) | (apply off; (exact rfl); (exact rfl)) | (apply condT; (exact rfl)) | (apply condF; (exact rfl)) | ((first | (apply stp0; (exact rfl); (exact rfl)) | (apply stpN0; (exact rfl)) | apply gT | apply condT); (first | (focus (simp only [go_sem, ↓reduceIte, simprocAttr, t10, t9, t8, t0, t3, t4, h4] <;> rfl)) | exact rfl); (first | (fail_if_success (show okD _ _ _ _ _ _ _ _ _)) | (first | exact okT | exact okN | exact okE rfl))) | (apply calTo0; (exact rfl); (iterate 2 (simp only [go_sem, ↓reduceIte, simprocAttr, t10, t9, t8, t0, t3, t4, h4]; rfl)); (first | exact hw _); (first | exact okT | exact okN | exact okE rfl)) | refine thenQ_n ?_ | refine thenQ_r ?_ | refine thenQ_e ?_ | refine blockQ_n ?_ | refine blockQ_r ?_ | refine blockQ_e ?_ | (apply blockQ_o; (exact rfl)) | refine Awp.seq ?_ | refine Awp.skip ?_ | refine Awp.block ?_ | refine reg (fun s => s == 4) ?_ | (apply drwE mixed (fun s => s == 4); (kernel_rfl)) | refine fin ?_ | refine Awp.ret ?_ | refine Awp.exit ?_ | ((first | (apply off; (exact rfl)) | apply condF); (first | (focus (simp only [go_sem, ↓reduceIte, simprocAttr, t10, t9, t8, t0, t3, t4, h4] <;> rfl)) | exact rfl)))
        all_goals first | contradiction | (exfalso; omega) | skip
        exact bodyQ_sameG (vs := [iv 2]) (.inr rfl) (by rw [Try.results49]; simp only [go_sem, ↓reduceIte, simprocAttr]) hG2 (.val _) rfl
      | true =>
        simp only [e, if_true] at hw hf
        rw [Bool.true_and] at hf
        cases i with
        | zero =>
          have hz : ¬ (((0 : Nat) : Int) > 0) := by omega
          repeat' (first | refine spD (fun _ => ?_) (fun _ => ?_) | refine spF (fun _ => ?_) (fun _ => ?_) | (apply gT; (exact rfl)) | (apply off; (exact rfl); (exact rfl)) | (apply condT; (exact rfl)) | (apply condF; (exact rfl)) | ((first | (apply stp0; (exact rfl); (exact rfl)) | (apply stpN0; (exact rfl)) | apply gT | apply condT | ((first | apply bodyQ_d0 | apply bodyQ_d1 | apply bodyQ_d2 | apply bodyQ_d3 | apply bodyQ_d4); (exact .inr rfl); (rw [Try.results49]))); (first | (focus (simp only [go_sem, ↓reduceIte, simprocAttr, t10, t9, t8, t0, t3, t4, h4, hz, hsu] <;> rfl)) | exact rfl); (first | (fail_if_success (show okD _ _ _ _ _ _ _ _ _)) | (first | exact okT | exact okN | exact okE rfl)); (first | (fail_if_success (show Bel _ _)) | (focus first | exact .val _ | (simp [oneOf, Bel_iff_tup, Bel_iff_agg, Bel_iff_rsl, Bel_iff_fn, Bel_iff_rptr, Bel_val]; done)))) | (apply calTo0; (exact rfl); (iterate 2 (simp only [go_sem, ↓reduceIte, simprocAttr, t10, t9, t8, t0, t3, t4, h4, hz, hsu]; rfl)); (first | exact hw _); (first | exact okT | exact okN | exact okE rfl)) | refine thenQ_n ?_ | refine thenQ_r ?_ | refine thenQ_e ?_ | refine blockQ_n ?_ | refine blockQ_r ?_ | refine blockQ_e ?_ | (apply blockQ_o; (exact rfl)) | refine Awp.seq ?_ | refine Awp.skip ?_ | refine Awp.block ?_ | refine reg (fun s => s == 4) ?_ | (apply drwE mixed (fun s => s == 4); (kernel_rfl)) | refine fin ?_ | refine Awp.ret ?_ | refine Awp.exit ?_ | ((first | (apply off; (exact rfl)) | apply condF); (first | (focus (simp only [go_sem, ↓reduceIte, simprocAttr, t10, t9, t8, t0, t3, t4, h4, hz, hsu] <;> rfl)) | exact rfl)))
          all_goals first | contradiction | (exfalso; omega) | skip
          refine ⟨1, ⟨hlt, ?_, ?_, ?_, ?_, hG2, hf, fun y hy => by rw [show prvS s 1 = s[0]? from rfl, hp] at hy; cases hy; exact e⟩, by omega⟩
          · (first | (focus (simp only [go_sem, ↓reduceIte, simprocAttr, hsu]; first | done | rfl)) | rfl)
          · (first | (focus (simp only [go_sem, ↓reduceIte, simprocAttr, t9]; first | done | rfl)) | rfl)
          · (first | (focus (simp only [go_sem, ↓reduceIte, simprocAttr, t8]; first | done | rfl)) | rfl)
          · (first | (focus (simp only [go_sem, ↓reduceIte, simprocAttr, t0]; first | done | rfl)) | rfl)
        | succ j =>
          obtain ⟨y, hy⟩ := nth (l := s) (i := j) (by omega)
          have hvy := vldB_in (hpv y hy)
          have hc2 := sps_at hy
          have hz : ((j + 1 : Nat) : Int) > 0 := by omega
          have wj : IntKind.i64.wrap (((j + 1 : Nat) : Int) - 1) = (j : Int) := by rw [show ((j + 1 : Nat) : Int) - 1 = (j : Int) by omega]; exact w64 (by omega) (by omega)
          have wy : IntKind.i64.wrap (y.2 + 2) = y.2 + 2 := w64 (by omega) (by omega)
          have hg : gapB (prvS s (j + 1)) p = decide (y.2 + 2 ≤ p.1) := by show gapB s[j]? p = _; rw [hy]; rfl
          rw [hg] at hf
          have hjl : j < s.length := by omega
          by_cases hgp : p.1 < y.2 + 2
          · rw [decide_eq_false (Int.not_le.2 hgp), Bool.false_and] at hf
            rw [hf, if_neg (by simp)]
            repeat' (first | refine spD (fun _ => ?_) (fun _ => ?_) | refine spF (fun _ => ?_) (fun _ => ?_) | (apply gT; (exact rfl)) | (apply off; (exact rfl); (exact rfl)) | (apply condT; (exact rfl)) | (apply condF; (exact rfl)) | ((first | (apply stp0; (exact rfl); (exact rfl)) | (apply stpN0; (exact rfl)) | apply gT | apply condT); (first | (focus (simp only [go_sem, ↓reduceIte, simprocAttr, t10, t9, t8, t0, t3, t4, h4, hvl, hc2, hz, wj, wy, hgp, hjl] <;> rfl)) | exact rfl); (first | (fail_if_success (show okD _ _ _ _ _ _ _ _ _)) | (first | exact okT | exact okN | exact okE rfl))) | (apply calTo0; (exact rfl); (iterate 2 (simp only [go_sem, ↓reduceIte, simprocAttr, t10, t9, t8, t0, t3, t4, h4, hvl, hc2, hz, wj, wy, hgp, hjl]; rfl)); (first | exact hw _); (first | exact okT | exact okN | exact okE rfl)) | refine thenQ_n ?_ | refine thenQ_r ?_ | refine thenQ_e ?_ | refine blockQ_n ?_ | refine blockQ_r ?_ | refine blockQ_e ?_ | (apply blockQ_o; (exact rfl)) | refine Awp.seq ?_ | refine Awp.skip ?_ | refine Awp.block ?_ | refine reg (fun s => s == 4) ?_ | (apply drwE mixed (fun s => s == 4); (kernel_rfl)) | refine fin ?_ | refine Awp.ret ?_ | refine Awp.exit ?_ | ((first | (apply off; (exact rfl)) | apply condF); (first | (focus (simp only [go_sem, ↓reduceIte, simprocAttr, t10, t9, t8, t0, t3, t4, h4, hvl, hc2, hz, wj, wy, hgp, hjl] <;> rfl)) | exact rfl)))
            all_goals first | contradiction | (exfalso; omega) | skip
            exact bodyQ_sameG (vs := [iv 2]) (.inr rfl) (by rw [Try.results49]; simp only [go_sem, ↓reduceIte, simprocAttr]) hG2 (.val _) rfl
          · rw [decide_eq_true (Int.not_lt.1 hgp), Bool.true_and] at hf
            repeat' (first | refine spD (fun _ => ?_) (fun _ => ?_) | refine spF (fun _ => ?_) (fun _ => ?_) | (apply gT; (exact rfl)) | (apply off; (exact rfl); (exact rfl)) | (apply condT; (exact rfl)) | (apply condF; (exact rfl)) | ((first | (apply stp0; (exact rfl); (exact rfl)) | (apply stpN0; (exact rfl)) | apply gT | apply condT | ((first | apply bodyQ_d0 | apply bodyQ_d1 | apply bodyQ_d2 | apply bodyQ_d3 | apply bodyQ_d4); (exact .inr rfl); (rw [Try.results49]))); (first | (focus (simp only [go_sem, ↓reduceIte, simprocAttr, t10, t9, t8, t0, t3, t4, h4, hvl, hc2, hz, wj, wy, hgp, hjl, hsu] <;> rfl)) | exact rfl); (first | (fail_if_success (show okD _ _ _ _ _ _ _ _ _)) | (first | exact okT | exact okN | exact okE rfl)); (first | (fail_if_success (show Bel _ _)) | (focus first | exact .val _ | (simp [oneOf, Bel_iff_tup, Bel_iff_agg, Bel_iff_rsl, Bel_iff_fn, Bel_iff_rptr, Bel_val]; done)))) | (apply calTo0; (exact rfl); (iterate 2 (simp only [go_sem, ↓reduceIte, simprocAttr, t10, t9, t8, t0, t3, t4, h4, hvl, hc2, hz, wj, wy, hgp, hjl, hsu]; rfl)); (first | exact hw _); (first | exact okT | exact okN | exact okE rfl)) | refine thenQ_n ?_ | refine thenQ_r ?_ | refine thenQ_e ?_ | refine blockQ_n ?_ | refine blockQ_r ?_ | refine blockQ_e ?_ | (apply blockQ_o; (exact rfl)) | refine Awp.seq ?_ | refine Awp.skip ?_ | refine Awp.block ?_ | refine reg (fun s => s == 4) ?_ | (apply drwE mixed (fun s => s == 4); (kernel_rfl)) | refine fin ?_ | refine Awp.ret ?_ | refine Awp.exit ?_ | ((first | (apply off; (exact rfl)) | apply condF); (first | (focus (simp only [go_sem, ↓reduceIte, simprocAttr, t10, t9, t8, t0, t3, t4, h4, hvl, hc2, hz, wj, wy, hgp, hjl, hsu] <;> rfl)) | exact rfl)))
            all_goals first | contradiction | (exfalso; omega) | skip
            refine ⟨j + 2, ⟨hlt, ?_, ?_, ?_, ?_, hG2, hf, fun z hz => by rw [show prvS s (j + 2) = s[j + 1]? from rfl, hp] at hz; cases hz; exact e⟩, by omega⟩
            · (first | (focus (simp only [go_sem, ↓reduceIte, simprocAttr, hsu]; first | done | rfl)) | rfl)
            · (first | (focus (simp only [go_sem, ↓reduceIte, simprocAttr, t9]; first | done | rfl)) | rfl)
            · (first | (focus (simp only [go_sem, ↓reduceIte, simprocAttr, t8]; first | done | rfl)) | rfl)
            · (first | (focus (simp only [go_sem, ↓reduceIte, simprocAttr, t0]; first | done | rfl)) | rfl)
    · have hie : i = s.length := Nat.le_antisymm hi (Nat.not_lt.1 hlt)
      subst hie
      rw [List.drop_length] at hf
      rw [hf, if_pos (by cases s <;> rfl)]
      repeat' (first | refine spD (fun _ => ?_) (fun _ => ?_) | refine spF (fun _ => ?_) (fun _ => ?_) | (apply gT; (exact rfl)) | (apply off; (exact rfl); (exact rfl)) | (apply condT; (exact rfl)) | (apply condF; (exact rfl)) | ((first | (apply stp0; (exact rfl); (exact rfl)) | (apply stpN0; (exact rfl)) | apply gT | apply condT); (first | (focus (simp only [go_sem, ↓reduceIte, simprocAttr, Int.lt_irrefl, t10, t9, t8, t0] <;> rfl)) | exact rfl); (first | (fail_if_success (show okD _ _ _ _ _ _ _ _ _)) | (first | exact okT | exact okN | exact okE rfl))) | refine thenQ_n ?_ | refine thenQ_r ?_ | refine thenQ_e ?_ | refine blockQ_n ?_ | refine blockQ_r ?_ | refine blockQ_e ?_ | (apply blockQ_o; (exact rfl)) | refine Awp.seq ?_ | refine Awp.skip ?_ | refine Awp.block ?_ | refine reg (fun s => s == 4) ?_ | (apply drwE mixed (fun s => s == 4); (kernel_rfl)) | refine fin ?_ | refine Awp.ret ?_ | refine Awp.exit ?_ | ((first | (apply off; (exact rfl)) | apply condF); (first | (focus (simp only [go_sem, ↓reduceIte, simprocAttr, Int.lt_irrefl, t10, t9, t8, t0] <;> rfl)) | exact rfl)))
      all_goals first | contradiction | (exfalso; omega) | skip
      exact bodyQ_sameG (vs := [iv 0]) (.inr rfl) (by rw [Try.results49]; simp only [go_sem, ↓reduceIte, simprocAttr]) hG (.val _) rfl

end Go.Proofs.Ytlhchnnfgppneaa.Ab
namespace Go.Proofs.Ytlhchnnfgppneaa.Ab
open Go Go.RowKit Go.Proofs
set_option linter.unusedSimpArgs false
set_option linter.unusedVariables false
attribute [local irreducible] Awp wpO thenQ blockQ bodyQ ACalls stepA

def idxS (p : Int × Int → Bool) : Nat → List (Int × Int) → Int
  | _, [] => -1
  | i, a :: l => if p a = true then i else idxS p (i + 1) l
theorem idxS_drop {p : Int × Int → Bool} {v : List (Int × Int)} {i : Nat} {a : Int × Int} (h : v[i]? = some a) : idxS p i (v.drop i) = if p a = true then (i : Int) else idxS p (i + 1) (v.drop (i + 1)) := by
  have hlt := (List.getElem?_eq_some_iff.1 h).1
  rw [List.drop_eq_getElem_cons hlt, (List.getElem?_eq_some_iff.1 h).2]
  rfl
theorem idxS_ge {p : Int × Int → Bool} : ∀ (v : List (Int × Int)) (i : Nat), (0 ≤ idxS p i v) ↔ v.any p = true
  | [], i => by simp [idxS]
  | a :: l, i => by
    unfold idxS
    by_cases h : p a = true
    · rw [if_pos h]; simp [h]
    · rw [if_neg h, idxS_ge l (i + 1)]; simp [h]
/-- a function that answers of a span -/
def AsksS (H : Hp) (f : FuncId) (cap : List AV) (p : Int × Int → Bool) : Prop := ∀ (x : Int × Int), CallsTo Try.prog f ([.agg [iv x.1, iv x.2]] ++ cap) H (bv (p x)) H

set_option maxRecDepth 8000 in
theorem indexS_ok (H : Hp) (v : List (Int × Int)) (ex : Bool) (hm : v.length ≤ maxLen) {f : FuncId} {cap : List AV} {p : Int × Int → Bool} (hp : AsksS H f cap p) : CallsTo Try.prog 112 [.rsl (sps v) ex, .fn (.func f) cap] H (iv (idxS p 0 v)) H := by
  have hvl := sps_len v
  refine ACalls.of_body Try.func112 rfl (by kernel_rfl) (by rw [Try.ntmps112]; simp) ?_; rw [Try.ntmps112]
  repeat' (first | refine spD (fun _ => ?_) (fun _ => ?_) | refine spF (fun _ => ?_) (fun _ => ?_) | (apply gT; (exact rfl)) | (apply off; (exact rfl); (exact rfl)) | (apply condT; (exact rfl)) | (apply condF; (exact rfl)) | ((first | (apply stp0; (exact rfl); (exact rfl)) | (apply stpN0; (exact rfl)) | apply gT | apply condT | ((first | apply bodyQ_d0 | apply bodyQ_d1 | apply bodyQ_d2 | apply bodyQ_d3 | apply bodyQ_d4); (exact .inr rfl); (rw [Try.results112]))); (first | (focus (simp only [go_sem, ↓reduceIte, simprocAttr, hvl] <;> rfl)) | exact rfl); (first | (fail_if_success (show okD _ _ _ _ _ _ _ _ _)) | (first | exact okT | exact okN | exact okE rfl)); (first | (fail_if_success (show Bel _ _)) | (focus first | exact .val _ | (simp [oneOf, Bel_iff_tup, Bel_iff_agg, Bel_iff_rsl, Bel_iff_fn, Bel_iff_rptr, Bel_val]; done)))) | refine thenQ_n ?_ | refine thenQ_r ?_ | refine thenQ_e ?_ | refine blockQ_n ?_ | refine blockQ_r ?_ | refine blockQ_e ?_ | (apply blockQ_o; (exact rfl)) | refine Awp.seq ?_ | refine Awp.skip ?_ | refine Awp.block ?_ | refine reg (fun s => false) ?_ | (apply drwE mixed (fun s => false); (kernel_rfl)) | refine fin ?_ | refine Awp.ret ?_ | refine Awp.exit ?_ | ((first | (apply off; (exact rfl)) | apply condF); (first | (focus (simp only [go_sem, ↓reduceIte, simprocAttr, hvl] <;> rfl)) | exact rfl)))
  refine Awp.loop (ι := Nat) (fun i T' H' => i ≤ v.length ∧ T' 8 = iv i ∧ T' 7 = iv v.length ∧ T' 0 = .rsl (sps v) ex ∧ T' 1 = .fn (.func f) cap ∧ H' = H ∧ idxS p 0 v = idxS p i (v.drop i)) (fun i => v.length - i) 0 ?_ ?_
  · refine ⟨by simp, ?_, ?_, ?_, ?_, rfl, rfl⟩
    · (first | (focus (simp only [go_sem, ↓reduceIte, simprocAttr]; first | done | rfl)) | rfl)
    · (first | (focus (simp only [go_sem, ↓reduceIte, simprocAttr, hvl]; first | done | rfl)) | rfl)
    · (first | (focus (simp only [go_sem, ↓reduceIte, simprocAttr]; first | done | rfl)) | rfl)
    · (first | (focus (simp only [go_sem, ↓reduceIte, simprocAttr]; first | done | rfl)) | rfl)
  rintro i T H' ⟨hi, h8, h7, h0, h1, hH, hno⟩
  subst hH
  by_cases hlt : i < v.length
  · obtain ⟨a, ha⟩ := nth hlt
    have hac := sps_at ha
    rw [idxS_drop ha] at hno
    have hw := wsucc hlt hm
    cases hpa : p a with
    | true =>
      have hq := hp a
      rw [hpa] at hq hno
      repeat' (first | refine spD (fun _ => ?_) (fun _ => ?_) | refine spF (fun _ => ?_) (fun _ => ?_) | (apply gT; (exact rfl)) | (apply off; (exact rfl); (exact rfl)) | (apply condT; (exact rfl)) | (apply condF; (exact rfl)) | ((first | (apply stp0; (exact rfl); (exact rfl)) | (apply stpN0; (exact rfl)) | apply gT | apply condT | ((first | apply bodyQ_d0 | apply bodyQ_d1 | apply bodyQ_d2 | apply bodyQ_d3 | apply bodyQ_d4); (exact .inr rfl); (rw [Try.results112]))); (first | (focus (simp only [go_sem, ↓reduceIte, simprocAttr, h8, h7, h0, h1, hac, hvl, hw] <;> rfl)) | exact rfl); (first | (fail_if_success (show okD _ _ _ _ _ _ _ _ _)) | (first | exact okT | exact okN | exact okE rfl)); (first | (fail_if_success (show Bel _ _)) | (focus first | exact .val _ | (simp [oneOf, Bel_iff_tup, Bel_iff_agg, Bel_iff_rsl, Bel_iff_fn, Bel_iff_rptr, Bel_val]; done)))) | (apply calTo0; (exact rfl); (iterate 2 (simp only [go_sem, ↓reduceIte, simprocAttr, h8, h7, h0, h1, hac, hvl, hw]; rfl)); (first | exact hq); (first | exact okT | exact okN | exact okE rfl)) | refine thenQ_n ?_ | refine thenQ_r ?_ | refine thenQ_e ?_ | refine blockQ_n ?_ | refine blockQ_r ?_ | refine blockQ_e ?_ | (apply blockQ_o; (exact rfl)) | refine Awp.seq ?_ | refine Awp.skip ?_ | refine Awp.block ?_ | refine reg (fun s => false) ?_ | (apply drwE mixed (fun s => false); (kernel_rfl)) | refine fin ?_ | refine Awp.ret ?_ | refine Awp.exit ?_ | ((first | (apply off; (exact rfl)) | apply condF); (first | (focus (simp only [go_sem, ↓reduceIte, simprocAttr, h8, h7, h0, h1, hac, hvl, hw] <;> rfl)) | exact rfl)))
      all_goals first | (exfalso; omega) | skip
      rw [if_pos rfl] at hno
      rw [hno]; rfl
    | false =>
      have hq := hp a
      rw [hpa] at hq hno
      repeat' (first | refine spD (fun _ => ?_) (fun _ => ?_) | refine spF (fun _ => ?_) (fun _ => ?_) | (apply gT; (exact rfl)) | (apply off; (exact rfl); (exact rfl)) | (apply condT; (exact rfl)) | (apply condF; (exact rfl)) | ((first | (apply stp0; (exact rfl); (exact rfl)) | (apply stpN0; (exact rfl)) | apply gT | apply condT | ((first | apply bodyQ_d0 | apply bodyQ_d1 | apply bodyQ_d2 | apply bodyQ_d3 | apply bodyQ_d4); (exact .inr rfl); (rw [Try.results112]))); (first | (focus (simp only [go_sem, ↓reduceIte, simprocAttr, h8, h7, h0, h1, hac, hvl, hw] <;> rfl)) | exact rfl); (first | (fail_if_success (show okD _ _ _ _ _ _ _ _ _)) | (first | exact okT | exact okN | exact okE rfl)); (first | (fail_if_success (show Bel _ _)) | (focus first | exact .val _ | (simp [oneOf, Bel_iff_tup, Bel_iff_agg, Bel_iff_rsl, Bel_iff_fn, Bel_iff_rptr, Bel_val]; done)))) | (apply calTo0; (exact rfl); (iterate 2 (simp only [go_sem, ↓reduceIte, simprocAttr, h8, h7, h0, h1, hac, hvl, hw]; rfl)); (first | exact hq); (first | exact okT | exact okN | exact okE rfl)) | refine thenQ_n ?_ | refine thenQ_r ?_ | refine thenQ_e ?_ | refine blockQ_n ?_ | refine blockQ_r ?_ | refine blockQ_e ?_ | (apply blockQ_o; (exact rfl)) | refine Awp.seq ?_ | refine Awp.skip ?_ | refine Awp.block ?_ | refine reg (fun s => false) ?_ | (apply drwE mixed (fun s => false); (kernel_rfl)) | refine fin ?_ | refine Awp.ret ?_ | refine Awp.exit ?_ | ((first | (apply off; (exact rfl)) | apply condF); (first | (focus (simp only [go_sem, ↓reduceIte, simprocAttr, h8, h7, h0, h1, hac, hvl, hw] <;> rfl)) | exact rfl)))
      all_goals first | (exfalso; omega) | skip
      rw [if_neg (by simp)] at hno
      refine ⟨i + 1, ⟨by omega, ?_, ?_, ?_, ?_, rfl, hno⟩, by omega⟩
      · (first | (focus (simp only [go_sem, ↓reduceIte, simprocAttr, hw]; first | done | rfl)) | rfl)
      · (first | (focus (simp only [go_sem, ↓reduceIte, simprocAttr, h7]; first | done | rfl)) | rfl)
      · (first | (focus (simp only [go_sem, ↓reduceIte, simprocAttr, h0]; first | done | rfl)) | rfl)
      · (first | (focus (simp only [go_sem, ↓reduceIte, simprocAttr, h1]; first | done | rfl)) | rfl)
  · repeat' ((fail_if_success (apply stopR (id := 3))); (fail_if_success (apply stopS (id := 3))); first | refine spD (fun _ => ?_) (fun _ => ?_) | refine spF (fun _ => ?_) (fun _ => ?_) | (apply gT; (exact rfl)) | (apply off; (exact rfl); (exact rfl)) | (apply condT; (exact rfl)) | (apply condF; (exact rfl)) | ((first | (apply stp0; (exact rfl); (exact rfl)) | (apply stpN0; (exact rfl)) | apply gT | apply condT | ((first | apply bodyQ_d0 | apply bodyQ_d1 | apply bodyQ_d2 | apply bodyQ_d3 | apply bodyQ_d4); (exact .inr rfl); (rw [Try.results112]))); (first | (focus (simp only [go_sem, ↓reduceIte, simprocAttr, h8, h7, h0, h1, hvl] <;> rfl)) | exact rfl); (first | (fail_if_success (show okD _ _ _ _ _ _ _ _ _)) | (first | exact okT | exact okN | exact okE rfl)); (first | (fail_if_success (show Bel _ _)) | (focus first | exact .val _ | (simp [oneOf, Bel_iff_tup, Bel_iff_agg, Bel_iff_rsl, Bel_iff_fn, Bel_iff_rptr, Bel_val]; done)))) | refine thenQ_n ?_ | refine thenQ_r ?_ | refine thenQ_e ?_ | refine blockQ_n ?_ | refine blockQ_r ?_ | refine blockQ_e ?_ | (apply blockQ_o; (exact rfl)) | refine Awp.seq ?_ | refine Awp.skip ?_ | refine Awp.block ?_ | refine reg (fun s => false) ?_ | (apply drwE mixed (fun s => false); (kernel_rfl)) | refine fin ?_ | refine Awp.ret ?_ | refine Awp.exit ?_ | ((first | (apply off; (exact rfl)) | apply condF); (first | (focus (simp only [go_sem, ↓reduceIte, simprocAttr, h8, h7, h0, h1, hvl] <;> rfl)) | exact rfl)))
    all_goals first | (exfalso; omega) | skip
    rw [hno, List.drop_of_length_le (by omega)]; rfl

theorem containsS_ok (H : Hp) (v : List (Int × Int)) (ex : Bool) (hm : v.length ≤ maxLen) {f : FuncId} {cap : List AV} {p : Int × Int → Bool} (hp : AsksS H f cap p) : CallsTo Try.prog 90 [.rsl (sps v) ex, .fn (.func f) cap] H (bv (v.any p)) H := by
  have hg := idxS_ge (p := p) v 0
  have he : v.any p = decide (idxS p 0 v ≥ 0) := by
    show _ = decide (0 ≤ idxS p 0 v)
    cases h : v.any p with
    | true => rw [decide_eq_true (hg.2 h)]
    | false => rw [decide_eq_false (fun k => by rw [hg.1 k] at h; cases h)]
  rw [he]
  refine ACalls.of_body Try.func90 rfl (by kernel_rfl) (by rw [Try.ntmps90]; simp) ?_; rw [Try.ntmps90]
  repeat' (first | refine spD (fun _ => ?_) (fun _ => ?_) | refine spF (fun _ => ?_) (fun _ => ?_) | (apply gT; (exact rfl)) | (apply off; (exact rfl); (exact rfl)) | (apply condT; (exact rfl)) | (apply condF; (exact rfl)) | ((first | (apply stp0; (exact rfl); (exact rfl)) | (apply stpN0; (exact rfl)) | apply gT | apply condT | ((first | apply bodyQ_d0 | apply bodyQ_d1 | apply bodyQ_d2 | apply bodyQ_d3 | apply bodyQ_d4); (exact .inr rfl); (rw [Try.results90]))); (first | (focus (simp only [go_sem, ↓reduceIte, simprocAttr] <;> rfl)) | exact rfl); (first | (fail_if_success (show okD _ _ _ _ _ _ _ _ _)) | (first | exact okT | exact okN | exact okE rfl)); (first | (fail_if_success (show Bel _ _)) | (focus first | exact .val _ | (simp [oneOf, Bel_iff_tup, Bel_iff_agg, Bel_iff_rsl, Bel_iff_fn, Bel_iff_rptr, Bel_val]; done)))) | (apply calTo0; (exact rfl); (iterate 2 (simp only [go_sem, ↓reduceIte, simprocAttr]; rfl)); (first | exact indexS_ok _ v ex hm hp); (first | exact okT | exact okN | exact okE rfl)) | refine thenQ_n ?_ | refine thenQ_r ?_ | refine thenQ_e ?_ | refine blockQ_n ?_ | refine blockQ_r ?_ | refine blockQ_e ?_ | (apply blockQ_o; (exact rfl)) | refine Awp.seq ?_ | refine Awp.skip ?_ | refine Awp.block ?_ | refine reg (fun s => false) ?_ | (apply drwE mixed (fun s => false); (kernel_rfl)) | refine fin ?_ | refine Awp.ret ?_ | refine Awp.exit ?_ | ((first | (apply off; (exact rfl)) | apply condF); (first | (focus (simp only [go_sem, ↓reduceIte, simprocAttr] <;> rfl)) | exact rfl)))
  all_goals first
    | (rename_i h; rw [decide_eq_true h]; rfl)
    | (rename_i h; rw [decide_eq_false h]; rfl)

set_option maxRecDepth 8000 in
theorem has91 (H : Hp) (x : Int) : AsksS H 91 [.rptr [iv x] 0] (fun p => wthB x p.1 p.2) := by
  intro p
  show CallsTo Try.prog 91 [.agg [iv p.1, iv p.2], .rptr [iv x] 0] H (bv (wthB x p.1 p.2)) H
  unfold wthB
  by_cases h1 : p.1 ≤ x
  · by_cases h2 : x ≤ p.2
    · rw [decide_eq_true h1, decide_eq_true h2]
      refine ACalls.of_body Try.func91 rfl (by kernel_rfl) (by rw [Try.ntmps91]; simp) ?_; rw [Try.ntmps91]
      repeat' (first | refine spD (fun _ => ?_) (fun _ => ?_) | refine spF (fun _ => ?_) (fun _ => ?_) | (apply gT; (exact rfl)) | (apply off; (exact rfl); (exact rfl)) | (apply condT; (exact rfl)) | (apply condF; (exact rfl)) | ((first | (apply stp0; (exact rfl); (exact rfl)) | (apply stpN0; (exact rfl)) | apply gT | apply condT | ((first | apply bodyQ_d0 | apply bodyQ_d1 | apply bodyQ_d2 | apply bodyQ_d3 | apply bodyQ_d4); (exact .inr rfl); (rw [Try.results91]))); (first | (focus (simp only [go_sem, ↓reduceIte, simprocAttr, h1, h2] <;> rfl)) | exact rfl); (first | (fail_if_success (show okD _ _ _ _ _ _ _ _ _)) | (first | exact okT | exact okN | exact okE rfl)); (first | (fail_if_success (show Bel _ _)) | (focus first | exact .val _ | (simp [oneOf, Bel_iff_tup, Bel_iff_agg, Bel_iff_rsl, Bel_iff_fn, Bel_iff_rptr, Bel_val]; done)))) | refine thenQ_n ?_ | refine thenQ_r ?_ | refine thenQ_e ?_ | refine blockQ_n ?_ | refine blockQ_r ?_ | refine blockQ_e ?_ | (apply blockQ_o; (exact rfl)) | refine Awp.seq ?_ | refine Awp.skip ?_ | refine Awp.block ?_ | refine reg (fun s => false) ?_ | (apply drwE mixed (fun s => false); (kernel_rfl)) | refine fin ?_ | refine Awp.ret ?_ | refine Awp.exit ?_ | ((first | (apply off; (exact rfl)) | apply condF); (first | (focus (simp only [go_sem, ↓reduceIte, simprocAttr, h1, h2] <;> rfl)) | exact rfl)))
      all_goals first | contradiction | (exfalso; omega) | rfl | skip
    · rw [decide_eq_true h1, decide_eq_false h2]
      refine ACalls.of_body Try.func91 rfl (by kernel_rfl) (by rw [Try.ntmps91]; simp) ?_; rw [Try.ntmps91]
      repeat' (first | refine spD (fun _ => ?_) (fun _ => ?_) | refine spF (fun _ => ?_) (fun _ => ?_) | (apply gT; (exact rfl)) | (apply off; (exact rfl); (exact rfl)) | (apply condT; (exact rfl)) | (apply condF; (exact rfl)) | ((first | (apply stp0; (exact rfl); (exact rfl)) | (apply stpN0; (exact rfl)) | apply gT | apply condT | ((first | apply bodyQ_d0 | apply bodyQ_d1 | apply bodyQ_d2 | apply bodyQ_d3 | apply bodyQ_d4); (exact .inr rfl); (rw [Try.results91]))); (first | (focus (simp only [go_sem, ↓reduceIte, simprocAttr, h1, h2] <;> rfl)) | exact rfl); (first | (fail_if_success (show okD _ _ _ _ _ _ _ _ _)) | (first | exact okT | exact okN | exact okE rfl)); (first | (fail_if_success (show Bel _ _)) | (focus first | exact .val _ | (simp [oneOf, Bel_iff_tup, Bel_iff_agg, Bel_iff_rsl, Bel_iff_fn, Bel_iff_rptr, Bel_val]; done)))) | refine thenQ_n ?_ | refine thenQ_r ?_ | refine thenQ_e ?_ | refine blockQ_n ?_ | refine blockQ_r ?_ | refine blockQ_e ?_ | (apply blockQ_o; (exact rfl)) | refine Awp.seq ?_ | refine Awp.skip ?_ | refine Awp.block ?_ | refine reg (fun s => false) ?_ | (apply drwE mixed (fun s => false); (kernel_rfl)) | refine fin ?_ | refine Awp.ret ?_ | refine Awp.exit ?_ | ((first | (apply off; (exact rfl)) | apply condF); (first | (focus (simp only [go_sem, ↓reduceIte, simprocAttr, h1, h2] <;> rfl)) | exact rfl)))
      all_goals first | contradiction | (exfalso; omega) | rfl | skip
  · rw [decide_eq_false h1, Bool.false_and]
    refine ACalls.of_body Try.func91 rfl (by kernel_rfl) (by rw [Try.ntmps91]; simp) ?_; rw [Try.ntmps91]
    repeat' (first | refine spD (fun _ => ?_) (fun _ => ?_) | refine spF (fun _ => ?_) (fun _ => ?_) | (apply gT; (exact rfl)) | (apply off; (exact rfl); (exact rfl)) | (apply condT; (exact rfl)) | (apply condF; (exact rfl)) | ((first | (apply stp0; (exact rfl); (exact rfl)) | (apply stpN0; (exact rfl)) | apply gT | apply condT | ((first | apply bodyQ_d0 | apply bodyQ_d1 | apply bodyQ_d2 | apply bodyQ_d3 | apply bodyQ_d4); (exact .inr rfl); (rw [Try.results91]))); (first | (focus (simp only [go_sem, ↓reduceIte, simprocAttr, h1] <;> rfl)) | exact rfl); (first | (fail_if_success (show okD _ _ _ _ _ _ _ _ _)) | (first | exact okT | exact okN | exact okE rfl)); (first | (fail_if_success (show Bel _ _)) | (focus first | exact .val _ | (simp [oneOf, Bel_iff_tup, Bel_iff_agg, Bel_iff_rsl, Bel_iff_fn, Bel_iff_rptr, Bel_val]; done)))) | refine thenQ_n ?_ | refine thenQ_r ?_ | refine thenQ_e ?_ | refine blockQ_n ?_ | refine blockQ_r ?_ | refine blockQ_e ?_ | (apply blockQ_o; (exact rfl)) | refine Awp.seq ?_ | refine Awp.skip ?_ | refine Awp.block ?_ | refine reg (fun s => false) ?_ | (apply drwE mixed (fun s => false); (kernel_rfl)) | refine fin ?_ | refine Awp.ret ?_ | refine Awp.exit ?_ | ((first | (apply off; (exact rfl)) | apply condF); (first | (focus (simp only [go_sem, ↓reduceIte, simprocAttr, h1] <;> rfl)) | exact rfl)))
    all_goals first | contradiction | (exfalso; omega) | rfl | skip

set_option maxRecDepth 8000 in
theorem bhas_ok (H : Hp) (s : List (Int × Int)) (ex : Bool) (hc : setC s = 0) (hm : s.length ≤ maxLen) (x : Int) : CallsTo Try.prog 50 [.rsl (sps s) ex, iv x] H (.tup [bv (isInB s x), iv 0]) H := by
  have hk := fun H => bcheckSet_ok H s ex
  rw [hc] at hk
  have hs := fun H => containsS_ok H s ex hm (has91 H x)
  unfold isInB
  refine ACalls.of_body Try.func50 rfl (by kernel_rfl) (by rw [Try.ntmps50]; simp) ?_; rw [Try.ntmps50]
  repeat' (first | refine spD (fun _ => ?_) (fun _ => ?_) | refine spF (fun _ => ?_) (fun _ => ?_) | (apply gT; (exact rfl)) | (apply off; (exact rfl); (exact rfl)) | (apply condT; (exact rfl)) | (apply condF; (exact rfl)) | ((first | (apply stp0; (exact rfl); (exact rfl)) | (apply stpN0; (exact rfl)) | apply gT | apply condT | ((first | apply bodyQ_d0 | apply bodyQ_d1 | apply bodyQ_d2 | apply bodyQ_d3 | apply bodyQ_d4); (exact .inr rfl); (rw [Try.results50]))); (first | (focus (simp only [go_sem, ↓reduceIte, simprocAttr] <;> rfl)) | exact rfl); (first | (fail_if_success (show okD _ _ _ _ _ _ _ _ _)) | (first | exact okT | exact okN | exact okE rfl)); (first | (fail_if_success (show Bel _ _)) | (focus first | exact .val _ | (simp [oneOf, Bel_iff_tup, Bel_iff_agg, Bel_iff_rsl, Bel_iff_fn, Bel_iff_rptr, Bel_val]; done)))) | (apply calTo0; (exact rfl); (iterate 2 (simp only [go_sem, ↓reduceIte, simprocAttr]; rfl)); (first | exact hk _ | exact hs _); (first | exact okT | exact okN | exact okE rfl)) | refine thenQ_n ?_ | refine thenQ_r ?_ | refine thenQ_e ?_ | refine blockQ_n ?_ | refine blockQ_r ?_ | refine blockQ_e ?_ | (apply blockQ_o; (exact rfl)) | refine Awp.seq ?_ | refine Awp.skip ?_ | refine Awp.block ?_ | refine reg (fun s => false) ?_ | (apply drwE mixed (fun s => false); (kernel_rfl)) | refine fin ?_ | refine Awp.ret ?_ | refine Awp.exit ?_ | ((first | (apply off; (exact rfl)) | apply condF); (first | (focus (simp only [go_sem, ↓reduceIte, simprocAttr] <;> rfl)) | exact rfl)))
  all_goals first | contradiction | (exfalso; omega) | rfl | skip

end Go.Proofs.Ytlhchnnfgppneaa.Ab
namespace Go.Proofs.Ytlhchnnfgppneaa.Ab
open Go Go.RowKit Go.Proofs
set_option linter.unusedSimpArgs false
set_option linter.unusedVariables false
attribute [local irreducible] Awp wpO thenQ blockQ bodyQ ACalls stepA

/-- how many numbers a set contains -/
def cntS (s : List (Int × Int)) : Int := (s.map fun p => p.2 - p.1 + 1).sum
theorem cntS_app (a b : List (Int × Int)) : cntS (a ++ b) = cntS a + cntS b := by simp [cntS]
theorem ack_cnt (R : List Item) : ∀ i, i ≤ R.length → cntS (ackT R i) = i := by
  intro i
  induction i with
  | zero => intro _; rfl
  | succ i ih =>
    intro hi
    obtain ⟨r, hr⟩ := nth (l := R) (i := i) (by omega)
    have h := ih (by omega)
    rw [ackT_succ hr]
    rcases List.eq_nil_or_concat (ackT R i) with e | ⟨l0, q, e⟩
    · rw [e] at h ⊢
      simp only [cntS, List.map_nil, List.sum_nil] at h
      simp [ackStep, cntS]; omega
    · rw [List.concat_eq_append] at e
      rw [e, cntS_app] at h
      rw [e, ackStep_app]
      split
      · rename_i c
        rw [cntS_app]
        simp only [cntS, List.map_cons, List.map_nil, List.sum_cons, List.sum_nil] at h ⊢
        omega
      · rw [cntS_app, cntS_app]
        simp only [cntS, List.map_cons, List.map_nil, List.sum_cons, List.sum_nil] at h ⊢
        omega
theorem isInB_app (a b : List (Int × Int)) (x : Int) : isInB (a ++ b) x = (isInB a x || isInB b x) := by simp [isInB]
theorem ack_in {R : List Item} (hs : srtR R) (hok : ∀ r ∈ R, r.ok) : ∀ i, i ≤ R.length → ∀ j r, j < i → R[j]? = some r → isInB (ackT R i) r.id = true := by
  intro i
  induction i with
  | zero => intro _ j r hj; omega
  | succ i ih =>
    intro hi j x hj hx
    obtain ⟨r, hr⟩ := nth (l := R) (i := i) (by omega)
    have hg := (ackT_gap hs hok i).2
    rw [ackT_succ hr]
    have hnew : isInB [(r.id, r.id)] r.id = true := by simp [isInB, wthB]
    have hcase : j < i ∨ x = r := by
      rcases Nat.lt_succ_iff_lt_or_eq.1 hj with h | h
      · exact .inl h
      · subst h; rw [hr] at hx; cases hx; exact .inr rfl
    rcases List.eq_nil_or_concat (ackT R i) with e | ⟨l0, q, e⟩
    · rw [e]
      rcases hcase with h | rfl
      · have := ih (by omega) j x h hx
        rw [e] at this; simp [isInB] at this
      · exact hnew
    · rw [List.concat_eq_append] at e
      rw [e] at hg
      have hq := hg q (by simp)
      rw [e, ackStep_app]
      split
      · rename_i c
        rw [isInB_app]
        rcases hcase with h | rfl
        · have := ih (by omega) j x h hx
          rw [e, isInB_app, Bool.or_eq_true] at this
          rw [Bool.or_eq_true]
          rcases this with h1 | h1
          · exact .inl h1
          · right
            simp [isInB, wthB] at h1 ⊢
            omega
        · rw [Bool.or_eq_true]
          right
          simp [isInB, wthB]
          omega
      · rw [isInB_app, Bool.or_eq_true]
        rcases hcase with h | rfl
        · have := ih (by omega) j x h hx
          rw [e] at this
          exact .inl this
        · exact .inr hnew

theorem setB_of : ∀ (s : List (Int × Int)) (o : Option (Int × Int)), (∀ p ∈ s, vldB p = true) → s.Pairwise (fun a b => a.2 + 1 < b.1) → (∀ a, o = some a → ∀ p ∈ s, a.2 + 1 < p.1) → (∀ p ∈ s, gapB none p = true) → (∀ a p, a.2 + 1 < p.1 → (-1073741824 ≤ a.2 ∧ a.2 ≤ 1073741824) → gapB (some a) p = true) → (∀ a, o = some a → -1073741824 ≤ a.2 ∧ a.2 ≤ 1073741824) → setB o s = true
  | [], o, _, _, _, _, _, _ => rfl
  | p :: l, o, h1, h2, h3, h4, h5, h6 => by
    have h2' := List.pairwise_cons.1 h2
    have hv := h1 p (by simp)
    have hg : gapB o p = true := by
      cases o with
      | none => exact h4 p (by simp)
      | some a => exact h5 a p (h3 a rfl p (by simp)) (h6 a rfl)
    have hr := setB_of l (some p) (fun q hq => h1 q (by simp [hq])) h2'.2 (fun a e q hq => by cases e; exact h2'.1 q hq) (fun q hq => h4 q (by simp [hq])) h5 (fun a e => by cases e; exact vldB_in hv)
    show (vldB p && gapB o p && setB (some p) l) = true
    rw [hv, hg, hr]; rfl

end Go.Proofs.Ytlhchnnfgppneaa.Ab
namespace Go.Proofs.Ytlhchnnfgppneaa.Ab
open Go Go.RowKit Go.Proofs
set_option linter.unusedSimpArgs false
set_option linter.unusedVariables false
attribute [local irreducible] Awp wpO thenQ blockQ bodyQ ACalls stepA

theorem ack_set {R : List Item} (hs : srtR R) (hok : ∀ r ∈ R, r.ok) (hl : R.length ≤ 256) : setC (ackL R) = 0 ∧ ∀ p ∈ ackL R, 0 ≤ p.1 ∧ p.1 ≤ p.2 ∧ p.2 ≤ 1073741824 := by
  obtain ⟨h1, h2⟩ := ackT_gap hs hok R.length
  have hlen := ackT_len R R.length
  have hin : ∀ p ∈ ackL R, 0 ≤ p.1 ∧ p.1 ≤ p.2 ∧ p.2 ≤ 1073741824 := fun p hp => by
    obtain ⟨a, b, j, r, _, hr, e⟩ := h2 p hp
    have := hok r (List.mem_of_getElem? hr)
    simp only [Item.ok] at this
    omega
  refine ⟨?_, hin⟩
  unfold setC
  have hn : ¬ ((ackL R).length : Int) > 256 := by show ¬ ((ackT R R.length).length : Int) > 256; omega
  rw [if_neg hn, if_pos]
  refine setB_of _ none (fun p hp => ?_) h1 (fun a e => by cases e) (fun p _ => rfl) (fun a p h _ => ?_) (fun a e => by cases e)
  · have := hin p hp
    simp [vldB, wthB]; omega
  · simp [gapB]; omega

theorem cntS_succ {s : List (Int × Int)} {i : Nat} {p : Int × Int} (h : s[i]? = some p) : cntS (s.take (i + 1)) = cntS (s.take i) + (p.2 - p.1 + 1) := by
  rw [List.take_add_one, h, cntS_app]
  simp [cntS]
theorem cntS_in {s : List (Int × Int)} (hs : ∀ p ∈ s, 0 ≤ p.1 ∧ p.1 ≤ p.2 ∧ p.2 ≤ 1073741824) : 0 ≤ cntS s ∧ cntS s ≤ 1073741825 * s.length := by
  induction s with
  | nil => simp [cntS]
  | cons p l ih =>
    have h1 := ih fun q hq => hs q (by simp [hq])
    have h2 := hs p (by simp)
    have e : cntS (p :: l) = (p.2 - p.1 + 1) + cntS l := by simp [cntS]
    have e2 : (1073741825 : Int) * ((p :: l).length : Nat) = 1073741825 * l.length + 1073741825 := by rw [List.length_cons, Int.natCast_succ, Int.mul_add, Int.mul_one]
    omega

set_option maxRecDepth 8000 in
set_option maxHeartbeats 4000000 in
theorem count_ok (H : Hp) (s : List (Int × Int)) (ex : Bool) (hc : setC s = 0) (hs : ∀ p ∈ s, 0 ≤ p.1 ∧ p.1 ≤ p.2 ∧ p.2 ≤ 1073741824) (hm : s.length ≤ 300) : ACalls Try.prog 48 [.rsl (sps s) ex] H fun v1 H1 => v1 = .tup [iv (cntS s), iv 0] ∧ Grow H H1 := by
  have hck := bcheckSet_ok H s ex
  rw [hc] at hck
  have hvl := sps_len s
  have hlm : s.length ≤ maxLen := by simp only [maxLen]; omega
  refine ACalls.of_body Try.func48 rfl (by kernel_rfl) (by rw [Try.ntmps48]; simp) ?_; rw [Try.ntmps48]
  repeat' (first | refine spD (fun _ => ?_) (fun _ => ?_) | refine spF (fun _ => ?_) (fun _ => ?_) | (apply gT; (exact rfl)) | (apply off; (exact rfl); (exact rfl)) | (apply condT; (exact rfl)) | (apply condF; (exact rfl)) | ((first | (apply stp0; (exact rfl); (exact rfl)) | (apply stpN0; (exact rfl)) | apply gT | apply condT | ((first | apply bodyQ_d0 | apply bodyQ_d1 | apply bodyQ_d2 | apply bodyQ_d3 | apply bodyQ_d4); (exact .inr rfl); (rw [Try.results48]))); (first | (focus (simp only [go_sem, ↓reduceIte, simprocAttr, hvl] <;> rfl)) | exact rfl); (first | (fail_if_success (show okD _ _ _ _ _ _ _ _ _)) | (first | exact okT | exact okN | exact okE rfl)); (first | (fail_if_success (show Bel _ _)) | (focus first | exact .val _ | (simp [oneOf, Bel_iff_tup, Bel_iff_agg, Bel_iff_rsl, Bel_iff_fn, Bel_iff_rptr, Bel_val]; done)))) | (apply calTo0; (exact rfl); (iterate 2 (simp only [go_sem, ↓reduceIte, simprocAttr, hvl]; rfl)); (first | exact hck); (first | exact okT | exact okN | exact okE rfl)) | refine thenQ_n ?_ | refine thenQ_r ?_ | refine thenQ_e ?_ | refine blockQ_n ?_ | refine blockQ_r ?_ | refine blockQ_e ?_ | (apply blockQ_o; (exact rfl)) | refine Awp.seq ?_ | refine Awp.skip ?_ | refine Awp.block ?_ | refine reg (fun s => s == 6) ?_ | (apply drwE mixed (fun s => s == 6); (kernel_rfl)) | refine fin ?_ | refine Awp.ret ?_ | refine Awp.exit ?_ | ((first | (apply off; (exact rfl)) | apply condF); (first | (focus (simp only [go_sem, ↓reduceIte, simprocAttr, hvl] <;> rfl)) | exact rfl)))
  all_goals first | contradiction | (exfalso; omega) | skip
  refine Awp.loop (ι := Nat) (fun i T' K => i ≤ s.length ∧ T' 14 = iv i ∧ T' 13 = iv s.length ∧ T' 12 = .rsl (sps s) ex ∧ T' 2 = iv (cntS (s.take i)) ∧ Grow H K) (fun i => s.length - i) 0 ?_ ?_
  · exact ⟨Nat.zero_le _, by (first | (focus (simp only [go_sem, ↓reduceIte, simprocAttr]; first | done | rfl)) | rfl), by (first | (focus (simp only [go_sem, ↓reduceIte, simprocAttr, hvl]; first | done | rfl)) | rfl), by (first | (focus (simp only [go_sem, ↓reduceIte, simprocAttr]; first | done | rfl)) | rfl), by (first | (focus (simp only [go_sem, ↓reduceIte, simprocAttr]; first | done | rfl)) | rfl), Grow.refl _⟩
  rintro i T K ⟨hi, t14, t13, t12, t2, hG⟩
  by_cases hlt : i < s.length
  · obtain ⟨p, hp⟩ := nth hlt
    have hpc := sps_at hp
    have hpi := hs p (List.mem_of_getElem? hp)
    have hsu := wsucc hlt hlm
    have hsc := cntS_succ hp
    have hb := cntS_in (s := s.take i) (fun q hq => hs q (List.mem_of_mem_take hq))
    have hbl : (s.take i).length ≤ 300 := by rw [List.length_take]; omega
    have w1 : IntKind.i64.wrap (p.2 - p.1) = p.2 - p.1 := w64 (by omega) (by omega)
    have w2 : IntKind.i64.wrap (p.2 - p.1 + 1) = p.2 - p.1 + 1 := w64 (by omega) (by omega)
    have w3 : IntKind.i64.wrap (cntS (s.take i) + (p.2 - p.1 + 1)) = cntS (s.take i) + (p.2 - p.1 + 1) := w64 (by omega) (by omega)
    have hx0 := get_new K (.cells [[iv p.1, iv p.2]] 70)
    repeat' ((fail_if_success (apply stopR (id := 7))); (fail_if_success (apply stopS (id := 7))); first | refine spD (fun _ => ?_) (fun _ => ?_) | refine spF (fun _ => ?_) (fun _ => ?_) | (apply gT; (exact rfl)) | (apply off; (exact rfl); (exact rfl)) | (apply condT; (exact rfl)) | (apply condF; (exact rfl)) | ((first | (apply stp0; (exact rfl); (exact rfl)) | (apply stpN0; (exact rfl)) | apply gT | apply condT | ((first | apply bodyQ_d0 | apply bodyQ_d1 | apply bodyQ_d2 | apply bodyQ_d3 | apply bodyQ_d4); (exact .inr rfl); (rw [Try.results48]))); (first | (focus (simp only [go_sem, ↓reduceIte, simprocAttr, Int.ofNat_lt.2 hlt, t14, t13, t12, t2, hvl, hpc] <;> rfl)) | exact rfl); (first | (fail_if_success (show okD _ _ _ _ _ _ _ _ _)) | (first | exact okT | exact okN | exact okE rfl)); (first | (fail_if_success (show Bel _ _)) | (focus first | exact .val _ | (simp [oneOf, Bel_iff_tup, Bel_iff_agg, Bel_iff_rsl, Bel_iff_fn, Bel_iff_rptr, Bel_val]; done)))) | refine thenQ_n ?_ | refine thenQ_r ?_ | refine thenQ_e ?_ | refine blockQ_n ?_ | refine blockQ_r ?_ | refine blockQ_e ?_ | (apply blockQ_o; (exact rfl)) | refine Awp.seq ?_ | refine Awp.skip ?_ | refine Awp.block ?_ | refine reg (fun s => s == 6) ?_ | (apply drwE mixed (fun s => s == 6); (kernel_rfl)) | refine fin ?_ | refine Awp.ret ?_ | refine Awp.exit ?_ | ((first | (apply off; (exact rfl)) | apply condF); (first | (focus (simp only [go_sem, ↓reduceIte, simprocAttr, Int.ofNat_lt.2 hlt, t14, t13, t12, t2, hvl, hpc] <;> rfl)) | exact rfl)))
    all_goals first | contradiction | (exfalso; omega) | skip
    refine Awp.withT (fun T' => T' 14 = iv i ∧ T' 13 = iv s.length ∧ T' 12 = .rsl (sps s) ex ∧ T' 2 = iv (cntS (s.take i)) ∧ T' 6 = .mptr K.length 0 0) ⟨by (first | (focus (simp only [go_sem, ↓reduceIte, simprocAttr, t14]; first | done | rfl)) | rfl), by (first | (focus (simp only [go_sem, ↓reduceIte, simprocAttr, t13]; first | done | rfl)) | rfl), by (first | (focus (simp only [go_sem, ↓reduceIte, simprocAttr, t12]; first | done | rfl)) | rfl), by (first | (focus (simp only [go_sem, ↓reduceIte, simprocAttr, t2]; first | done | rfl)) | rfl), by (first | (focus (simp only [go_sem, ↓reduceIte, simprocAttr]; first | done | rfl)) | rfl)⟩ ?_
    clear t14 t13 t12 t2 T
    rintro T ⟨t14, t13, t12, t2, t6⟩
    repeat' (first | refine spD (fun _ => ?_) (fun _ => ?_) | refine spF (fun _ => ?_) (fun _ => ?_) | (apply gT; (exact rfl)) | (apply off; (exact rfl); (exact rfl)) | (apply condT; (exact rfl)) | (apply condF; (exact rfl)) | ((first | (apply stp0; (exact rfl); (exact rfl)) | (apply stpN0; (exact rfl)) | apply gT | apply condT | ((first | apply bodyQ_d0 | apply bodyQ_d1 | apply bodyQ_d2 | apply bodyQ_d3 | apply bodyQ_d4); (exact .inr rfl); (rw [Try.results48]))); (first | (focus (simp only [go_sem, ↓reduceIte, simprocAttr, t14, t2, t6, hx0, w1, w2, w3, hsu] <;> rfl)) | exact rfl); (first | (fail_if_success (show okD _ _ _ _ _ _ _ _ _)) | (first | exact okT | exact okN | exact okE rfl)); (first | (fail_if_success (show Bel _ _)) | (focus first | exact .val _ | (simp [oneOf, Bel_iff_tup, Bel_iff_agg, Bel_iff_rsl, Bel_iff_fn, Bel_iff_rptr, Bel_val]; done)))) | refine thenQ_n ?_ | refine thenQ_r ?_ | refine thenQ_e ?_ | refine blockQ_n ?_ | refine blockQ_r ?_ | refine blockQ_e ?_ | (apply blockQ_o; (exact rfl)) | refine Awp.seq ?_ | refine Awp.skip ?_ | refine Awp.block ?_ | refine reg (fun s => s == 6) ?_ | (apply drwE mixed (fun s => s == 6); (kernel_rfl)) | refine fin ?_ | refine Awp.ret ?_ | refine Awp.exit ?_ | ((first | (apply off; (exact rfl)) | apply condF); (first | (focus (simp only [go_sem, ↓reduceIte, simprocAttr, t14, t2, t6, hx0, w1, w2, w3, hsu] <;> rfl)) | exact rfl)))
    all_goals first | contradiction | (exfalso; omega) | skip
    refine ⟨i + 1, ⟨hlt, ?_, ?_, ?_, ?_, hG.app _⟩, Nat.sub_lt_sub_left hlt (Nat.lt_succ_self i)⟩
    · (first | (focus (simp only [go_sem, ↓reduceIte, simprocAttr, hsu]; first | done | rfl)) | rfl)
    · (first | (focus (simp only [go_sem, ↓reduceIte, simprocAttr, t13]; first | done | rfl)) | rfl)
    · (first | (focus (simp only [go_sem, ↓reduceIte, simprocAttr, t12]; first | done | rfl)) | rfl)
    · rw [hsc]; (first | (focus (simp only [go_sem, ↓reduceIte, simprocAttr, w3]; first | done | rfl)) | rfl)
  · have hie : i = s.length := Nat.le_antisymm hi (Nat.not_lt.1 hlt)
    subst hie
    rw [List.take_length] at t2
    repeat' (first | refine spD (fun _ => ?_) (fun _ => ?_) | refine spF (fun _ => ?_) (fun _ => ?_) | (apply gT; (exact rfl)) | (apply off; (exact rfl); (exact rfl)) | (apply condT; (exact rfl)) | (apply condF; (exact rfl)) | ((first | (apply stp0; (exact rfl); (exact rfl)) | (apply stpN0; (exact rfl)) | apply gT | apply condT); (first | (focus (simp only [go_sem, ↓reduceIte, simprocAttr, Int.lt_irrefl, t14, t13, t2] <;> rfl)) | exact rfl); (first | (fail_if_success (show okD _ _ _ _ _ _ _ _ _)) | (first | exact okT | exact okN | exact okE rfl))) | refine thenQ_n ?_ | refine thenQ_r ?_ | refine thenQ_e ?_ | refine blockQ_n ?_ | refine blockQ_r ?_ | refine blockQ_e ?_ | (apply blockQ_o; (exact rfl)) | refine Awp.seq ?_ | refine Awp.skip ?_ | refine Awp.block ?_ | refine reg (fun s => s == 6) ?_ | (apply drwE mixed (fun s => s == 6); (kernel_rfl)) | refine fin ?_ | refine Awp.ret ?_ | refine Awp.exit ?_ | ((first | (apply off; (exact rfl)) | apply condF); (first | (focus (simp only [go_sem, ↓reduceIte, simprocAttr, Int.lt_irrefl, t14, t13, t2] <;> rfl)) | exact rfl)))
    all_goals first | contradiction | (exfalso; omega) | skip
    exact bodyQ_mk (vs := [iv (cntS s), iv 0]) (.inr rfl) (by rw [Try.results48]; simp only [go_sem, ↓reduceIte, simprocAttr, t2]) (Vs.refl _ _ _) ⟨rfl, hG⟩

end Go.Proofs.Ytlhchnnfgppneaa.Ab
namespace Go.Proofs.Ytlhchnnfgppneaa.Ab
open Go Go.RowKit Go.Proofs
set_option linter.unusedSimpArgs false
set_option linter.unusedVariables false
attribute [local irreducible] Awp wpO thenQ blockQ bodyQ ACalls stepA

def fnd (x : Int) : List Hd → Nat → Int
  | [], _ => -1
  | h :: l, i => if h.r.id = x then (i : Int) else fnd x l (i + 1)
theorem fnd_drop {x : Int} {L : List Hd} {i : Nat} {h : Hd} (hi : L[i]? = some h) : fnd x (L.drop i) i = if h.r.id = x then (i : Int) else fnd x (L.drop (i + 1)) (i + 1) := by
  have hlt := (List.getElem?_eq_some_iff.1 hi).1
  rw [List.drop_eq_getElem_cons hlt, (List.getElem?_eq_some_iff.1 hi).2]
  rfl
theorem fnd_spec {x : Int} : ∀ (L : List Hd) (i : Nat), (fnd x L i = -1 ∧ x ∉ idsL L) ∨ ∃ k h, fnd x L i = ((i + k : Nat) : Int) ∧ L[k]? = some h ∧ h.r.id = x := by
  intro L
  induction L with
  | nil => intro i; exact .inl ⟨rfl, by simp [idsL]⟩
  | cons h l ih =>
    intro i
    unfold fnd
    by_cases e : h.r.id = x
    · rw [if_pos e]; exact .inr ⟨0, h, by simp, rfl, e⟩
    · rw [if_neg e]
      rcases ih (i + 1) with ⟨h1, h2⟩ | ⟨k, y, h1, h2, h3⟩
      · exact .inl ⟨h1, by simp only [idsL, List.map_cons, List.mem_cons, not_or]; exact ⟨Ne.symm e, h2⟩⟩
      · exact .inr ⟨k + 1, y, by rw [h1]; congr 1; omega, by simpa using h2, h3⟩

set_option maxRecDepth 8000 in
theorem find_ok (H : Hp) (L : List Hd) (ex : Bool) (hm : L.length ≤ maxLen) (x : Int) : CallsTo Try.prog 26 [.rsl (hds L) ex, iv x] H (iv (fnd x L 0)) H := by
  have hvl := hds_len L
  refine ACalls.of_body Try.func26 rfl (by kernel_rfl) (by rw [Try.ntmps26]; simp) ?_; rw [Try.ntmps26]
  repeat' (first | refine spD (fun _ => ?_) (fun _ => ?_) | refine spF (fun _ => ?_) (fun _ => ?_) | (apply gT; (exact rfl)) | (apply off; (exact rfl); (exact rfl)) | (apply condT; (exact rfl)) | (apply condF; (exact rfl)) | ((first | (apply stp0; (exact rfl); (exact rfl)) | (apply stpN0; (exact rfl)) | apply gT | apply condT | ((first | apply bodyQ_d0 | apply bodyQ_d1 | apply bodyQ_d2 | apply bodyQ_d3 | apply bodyQ_d4); (exact .inr rfl); (rw [Try.results26]))); (first | (focus (simp only [go_sem, ↓reduceIte, simprocAttr] <;> rfl)) | exact rfl); (first | (fail_if_success (show okD _ _ _ _ _ _ _ _ _)) | (first | exact okT | exact okN | exact okE rfl)); (first | (fail_if_success (show Bel _ _)) | (focus first | exact .val _ | (simp [oneOf, Bel_iff_tup, Bel_iff_agg, Bel_iff_rsl, Bel_iff_fn, Bel_iff_rptr, Bel_val]; done)))) | refine thenQ_n ?_ | refine thenQ_r ?_ | refine thenQ_e ?_ | refine blockQ_n ?_ | refine blockQ_r ?_ | refine blockQ_e ?_ | (apply blockQ_o; (exact rfl)) | refine Awp.seq ?_ | refine Awp.skip ?_ | refine Awp.block ?_ | refine reg (fun s => false) ?_ | (apply drwE mixed (fun s => false); (kernel_rfl)) | refine fin ?_ | refine Awp.ret ?_ | refine Awp.exit ?_ | ((first | (apply off; (exact rfl)) | apply condF); (first | (focus (simp only [go_sem, ↓reduceIte, simprocAttr] <;> rfl)) | exact rfl)))
  all_goals first | contradiction | (exfalso; omega) | skip
  refine Awp.loop (ι := Nat) (fun i T' K => i ≤ L.length ∧ T' 5 = iv i ∧ T' 0 = .rsl (hds L) ex ∧ T' 1 = iv x ∧ K = H ∧ fnd x L 0 = fnd x (L.drop i) i) (fun i => L.length - i) 0 ?_ ?_
  · refine ⟨Nat.zero_le _, ?_, ?_, ?_, rfl, by rw [List.drop_zero]⟩
    · (first | (focus (simp only [go_sem, ↓reduceIte, simprocAttr]; first | done | rfl)) | rfl)
    · (first | (focus (simp only [go_sem, ↓reduceIte, simprocAttr]; first | done | rfl)) | rfl)
    · (first | (focus (simp only [go_sem, ↓reduceIte, simprocAttr]; first | done | rfl)) | rfl)
  rintro i T K ⟨hi, t5, t0, t1, hK, hf⟩
  rw [hK]
  by_cases hlt : i < L.length
  · obtain ⟨h, hh⟩ := nth hlt
    have hc := hds_at hh
    have hw := wsucc hlt hm
    rw [fnd_drop hh] at hf
    by_cases e : h.r.id = x
    · rw [if_pos e] at hf
      rw [hf]
      repeat' (first | refine spD (fun _ => ?_) (fun _ => ?_) | refine spF (fun _ => ?_) (fun _ => ?_) | (apply gT; (exact rfl)) | (apply off; (exact rfl); (exact rfl)) | (apply condT; (exact rfl)) | (apply condF; (exact rfl)) | ((first | (apply stp0; (exact rfl); (exact rfl)) | (apply stpN0; (exact rfl)) | apply gT | apply condT | ((first | apply bodyQ_d0 | apply bodyQ_d1 | apply bodyQ_d2 | apply bodyQ_d3 | apply bodyQ_d4); (exact .inr rfl); (rw [Try.results26]))); (first | (focus (simp only [go_sem, ↓reduceIte, simprocAttr, Int.ofNat_lt.2 hlt, t5, t0, t1, hvl, hc, e] <;> rfl)) | exact rfl); (first | (fail_if_success (show okD _ _ _ _ _ _ _ _ _)) | (first | exact okT | exact okN | exact okE rfl)); (first | (fail_if_success (show Bel _ _)) | (focus first | exact .val _ | (simp [oneOf, Bel_iff_tup, Bel_iff_agg, Bel_iff_rsl, Bel_iff_fn, Bel_iff_rptr, Bel_val]; done)))) | refine thenQ_n ?_ | refine thenQ_r ?_ | refine thenQ_e ?_ | refine blockQ_n ?_ | refine blockQ_r ?_ | refine blockQ_e ?_ | (apply blockQ_o; (exact rfl)) | refine Awp.seq ?_ | refine Awp.skip ?_ | refine Awp.block ?_ | refine reg (fun s => false) ?_ | (apply drwE mixed (fun s => false); (kernel_rfl)) | refine fin ?_ | refine Awp.ret ?_ | refine Awp.exit ?_ | ((first | (apply off; (exact rfl)) | apply condF); (first | (focus (simp only [go_sem, ↓reduceIte, simprocAttr, Int.ofNat_lt.2 hlt, t5, t0, t1, hvl, hc, e] <;> rfl)) | exact rfl)))
      all_goals first | contradiction | (exfalso; omega) | rfl | skip
    · rw [if_neg e] at hf
      repeat' (first | refine spD (fun _ => ?_) (fun _ => ?_) | refine spF (fun _ => ?_) (fun _ => ?_) | (apply gT; (exact rfl)) | (apply off; (exact rfl); (exact rfl)) | (apply condT; (exact rfl)) | (apply condF; (exact rfl)) | ((first | (apply stp0; (exact rfl); (exact rfl)) | (apply stpN0; (exact rfl)) | apply gT | apply condT | ((first | apply bodyQ_d0 | apply bodyQ_d1 | apply bodyQ_d2 | apply bodyQ_d3 | apply bodyQ_d4); (exact .inr rfl); (rw [Try.results26]))); (first | (focus (simp only [go_sem, ↓reduceIte, simprocAttr, Int.ofNat_lt.2 hlt, t5, t0, t1, hvl, hc, e, hw] <;> rfl)) | exact rfl); (first | (fail_if_success (show okD _ _ _ _ _ _ _ _ _)) | (first | exact okT | exact okN | exact okE rfl)); (first | (fail_if_success (show Bel _ _)) | (focus first | exact .val _ | (simp [oneOf, Bel_iff_tup, Bel_iff_agg, Bel_iff_rsl, Bel_iff_fn, Bel_iff_rptr, Bel_val]; done)))) | refine thenQ_n ?_ | refine thenQ_r ?_ | refine thenQ_e ?_ | refine blockQ_n ?_ | refine blockQ_r ?_ | refine blockQ_e ?_ | (apply blockQ_o; (exact rfl)) | refine Awp.seq ?_ | refine Awp.skip ?_ | refine Awp.block ?_ | refine reg (fun s => false) ?_ | (apply drwE mixed (fun s => false); (kernel_rfl)) | refine fin ?_ | refine Awp.ret ?_ | refine Awp.exit ?_ | ((first | (apply off; (exact rfl)) | apply condF); (first | (focus (simp only [go_sem, ↓reduceIte, simprocAttr, Int.ofNat_lt.2 hlt, t5, t0, t1, hvl, hc, e, hw] <;> rfl)) | exact rfl)))
      all_goals first | contradiction | (exfalso; omega) | skip
      refine ⟨i + 1, ⟨hlt, ?_, ?_, ?_, rfl, hf⟩, by omega⟩
      · (first | (focus (simp only [go_sem, ↓reduceIte, simprocAttr, hw]; first | done | rfl)) | rfl)
      · (first | (focus (simp only [go_sem, ↓reduceIte, simprocAttr, t0]; first | done | rfl)) | rfl)
      · (first | (focus (simp only [go_sem, ↓reduceIte, simprocAttr, t1]; first | done | rfl)) | rfl)
  · have hil : i = L.length := by omega
    subst hil
    rw [List.drop_length] at hf
    rw [hf]
    repeat' (first | refine spD (fun _ => ?_) (fun _ => ?_) | refine spF (fun _ => ?_) (fun _ => ?_) | (apply gT; (exact rfl)) | (apply off; (exact rfl); (exact rfl)) | (apply condT; (exact rfl)) | (apply condF; (exact rfl)) | ((first | (apply stp0; (exact rfl); (exact rfl)) | (apply stpN0; (exact rfl)) | apply gT | apply condT | ((first | apply bodyQ_d0 | apply bodyQ_d1 | apply bodyQ_d2 | apply bodyQ_d3 | apply bodyQ_d4); (exact .inr rfl); (rw [Try.results26]))); (first | (focus (simp only [go_sem, ↓reduceIte, simprocAttr, Int.lt_irrefl, t5, t0, t1, hvl] <;> rfl)) | exact rfl); (first | (fail_if_success (show okD _ _ _ _ _ _ _ _ _)) | (first | exact okT | exact okN | exact okE rfl)); (first | (fail_if_success (show Bel _ _)) | (focus first | exact .val _ | (simp [oneOf, Bel_iff_tup, Bel_iff_agg, Bel_iff_rsl, Bel_iff_fn, Bel_iff_rptr, Bel_val]; done)))) | refine thenQ_n ?_ | refine thenQ_r ?_ | refine thenQ_e ?_ | refine blockQ_n ?_ | refine blockQ_r ?_ | refine blockQ_e ?_ | (apply blockQ_o; (exact rfl)) | refine Awp.seq ?_ | refine Awp.skip ?_ | refine Awp.block ?_ | refine reg (fun s => false) ?_ | (apply drwE mixed (fun s => false); (kernel_rfl)) | refine fin ?_ | refine Awp.ret ?_ | refine Awp.exit ?_ | ((first | (apply off; (exact rfl)) | apply condF); (first | (focus (simp only [go_sem, ↓reduceIte, simprocAttr, Int.lt_irrefl, t5, t0, t1, hvl] <;> rfl)) | exact rfl)))
    all_goals first | contradiction | (exfalso; omega) | rfl | skip

set_option maxRecDepth 8000 in
theorem held_ok (H : Hp) (L : List Hd) (ex ex' : Bool) (hm : L.length ≤ maxLen) : CallsTo Try.prog 25 [.rsl (hds L) ex, .rsl (hds L) ex'] H (bv true) H := by
  have hvl := hds_len L
  refine ACalls.of_body Try.func25 rfl (by kernel_rfl) (by rw [Try.ntmps25]; simp) ?_; rw [Try.ntmps25]
  repeat' (first | refine spD (fun _ => ?_) (fun _ => ?_) | refine spF (fun _ => ?_) (fun _ => ?_) | (apply gT; (exact rfl)) | (apply off; (exact rfl); (exact rfl)) | (apply condT; (exact rfl)) | (apply condF; (exact rfl)) | ((first | (apply stp0; (exact rfl); (exact rfl)) | (apply stpN0; (exact rfl)) | apply gT | apply condT | ((first | apply bodyQ_d0 | apply bodyQ_d1 | apply bodyQ_d2 | apply bodyQ_d3 | apply bodyQ_d4); (exact .inr rfl); (rw [Try.results25]))); (first | (focus (simp only [go_sem, ↓reduceIte, simprocAttr, hvl] <;> rfl)) | exact rfl); (first | (fail_if_success (show okD _ _ _ _ _ _ _ _ _)) | (first | exact okT | exact okN | exact okE rfl)); (first | (fail_if_success (show Bel _ _)) | (focus first | exact .val _ | (simp [oneOf, Bel_iff_tup, Bel_iff_agg, Bel_iff_rsl, Bel_iff_fn, Bel_iff_rptr, Bel_val]; done)))) | refine thenQ_n ?_ | refine thenQ_r ?_ | refine thenQ_e ?_ | refine blockQ_n ?_ | refine blockQ_r ?_ | refine blockQ_e ?_ | (apply blockQ_o; (exact rfl)) | refine Awp.seq ?_ | refine Awp.skip ?_ | refine Awp.block ?_ | refine reg (fun s => false) ?_ | (apply drwE mixed (fun s => false); (kernel_rfl)) | refine fin ?_ | refine Awp.ret ?_ | refine Awp.exit ?_ | ((first | (apply off; (exact rfl)) | apply condF); (first | (focus (simp only [go_sem, ↓reduceIte, simprocAttr, hvl] <;> rfl)) | exact rfl)))
  all_goals first | contradiction | (exfalso; omega) | skip
  refine Awp.loop (ι := Nat) (fun i T' K => i ≤ L.length ∧ T' 5 = iv i ∧ T' 0 = .rsl (hds L) ex ∧ T' 1 = .rsl (hds L) ex' ∧ K = H) (fun i => L.length - i) 0 ?_ ?_
  · refine ⟨Nat.zero_le _, ?_, ?_, ?_, rfl⟩
    · (first | (focus (simp only [go_sem, ↓reduceIte, simprocAttr]; first | done | rfl)) | rfl)
    · (first | (focus (simp only [go_sem, ↓reduceIte, simprocAttr]; first | done | rfl)) | rfl)
    · (first | (focus (simp only [go_sem, ↓reduceIte, simprocAttr]; first | done | rfl)) | rfl)
  rintro i T K ⟨hi, t5, t0, t1, hK⟩
  rw [hK]
  by_cases hlt : i < L.length
  · obtain ⟨h, hh⟩ := nth hlt
    have hc := hds_at hh
    have hw := wsucc hlt hm
    repeat' (first | refine spD (fun _ => ?_) (fun _ => ?_) | refine spF (fun _ => ?_) (fun _ => ?_) | (apply gT; (exact rfl)) | (apply off; (exact rfl); (exact rfl)) | (apply condT; (exact rfl)) | (apply condF; (exact rfl)) | ((first | (apply stp0; (exact rfl); (exact rfl)) | (apply stpN0; (exact rfl)) | apply gT | apply condT | ((first | apply bodyQ_d0 | apply bodyQ_d1 | apply bodyQ_d2 | apply bodyQ_d3 | apply bodyQ_d4); (exact .inr rfl); (rw [Try.results25]))); (first | (focus (simp only [go_sem, ↓reduceIte, simprocAttr, Int.ofNat_lt.2 hlt, t5, t0, t1, hvl, hc, hw, beq_self_eq_true, Bool.and_self, Bool.not_true] <;> rfl)) | exact rfl); (first | (fail_if_success (show okD _ _ _ _ _ _ _ _ _)) | (first | exact okT | exact okN | exact okE rfl)); (first | (fail_if_success (show Bel _ _)) | (focus first | exact .val _ | (simp [oneOf, Bel_iff_tup, Bel_iff_agg, Bel_iff_rsl, Bel_iff_fn, Bel_iff_rptr, Bel_val]; done)))) | refine thenQ_n ?_ | refine thenQ_r ?_ | refine thenQ_e ?_ | refine blockQ_n ?_ | refine blockQ_r ?_ | refine blockQ_e ?_ | (apply blockQ_o; (exact rfl)) | refine Awp.seq ?_ | refine Awp.skip ?_ | refine Awp.block ?_ | refine reg (fun s => false) ?_ | (apply drwE mixed (fun s => false); (kernel_rfl)) | refine fin ?_ | refine Awp.ret ?_ | refine Awp.exit ?_ | ((first | (apply off; (exact rfl)) | apply condF); (first | (focus (simp only [go_sem, ↓reduceIte, simprocAttr, Int.ofNat_lt.2 hlt, t5, t0, t1, hvl, hc, hw, beq_self_eq_true, Bool.and_self, Bool.not_true] <;> rfl)) | exact rfl)))
    all_goals first | contradiction | (exfalso; omega) | skip
    refine ⟨i + 1, ⟨hlt, ?_, ?_, ?_, rfl⟩, by omega⟩
    · (first | (focus (simp only [go_sem, ↓reduceIte, simprocAttr, hw]; first | done | rfl)) | rfl)
    · (first | (focus (simp only [go_sem, ↓reduceIte, simprocAttr, t0]; first | done | rfl)) | rfl)
    · (first | (focus (simp only [go_sem, ↓reduceIte, simprocAttr, t1]; first | done | rfl)) | rfl)
  · repeat' (first | refine spD (fun _ => ?_) (fun _ => ?_) | refine spF (fun _ => ?_) (fun _ => ?_) | (apply gT; (exact rfl)) | (apply off; (exact rfl); (exact rfl)) | (apply condT; (exact rfl)) | (apply condF; (exact rfl)) | ((first | (apply stp0; (exact rfl); (exact rfl)) | (apply stpN0; (exact rfl)) | apply gT | apply condT | ((first | apply bodyQ_d0 | apply bodyQ_d1 | apply bodyQ_d2 | apply bodyQ_d3 | apply bodyQ_d4); (exact .inr rfl); (rw [Try.results25]))); (first | (focus (simp only [go_sem, ↓reduceIte, simprocAttr, t5, t0, t1, hvl] <;> rfl)) | exact rfl); (first | (fail_if_success (show okD _ _ _ _ _ _ _ _ _)) | (first | exact okT | exact okN | exact okE rfl)); (first | (fail_if_success (show Bel _ _)) | (focus first | exact .val _ | (simp [oneOf, Bel_iff_tup, Bel_iff_agg, Bel_iff_rsl, Bel_iff_fn, Bel_iff_rptr, Bel_val]; done)))) | refine thenQ_n ?_ | refine thenQ_r ?_ | refine thenQ_e ?_ | refine blockQ_n ?_ | refine blockQ_r ?_ | refine blockQ_e ?_ | (apply blockQ_o; (exact rfl)) | refine Awp.seq ?_ | refine Awp.skip ?_ | refine Awp.block ?_ | refine reg (fun s => false) ?_ | (apply drwE mixed (fun s => false); (kernel_rfl)) | refine fin ?_ | refine Awp.ret ?_ | refine Awp.exit ?_ | ((first | (apply off; (exact rfl)) | apply condF); (first | (focus (simp only [go_sem, ↓reduceIte, simprocAttr, t5, t0, t1, hvl] <;> rfl)) | exact rfl)))
    all_goals first | contradiction | (exfalso; omega) | rfl | skip

set_option maxRecDepth 8000 in
theorem hbytes_ok (H : Hp) (h : Hd) : CallsTo Try.prog 27 [.agg h.cs] H (iv h.bytes) H := by
  unfold Hd.bytes
  cases e : h.sm with
  | true =>
    refine ACalls.of_body Try.func27 rfl (by kernel_rfl) (by rw [Try.ntmps27]; simp) ?_; rw [Try.ntmps27]
    repeat' (first | refine spD (fun _ => ?_) (fun _ => ?_) | refine spF (fun _ => ?_) (fun _ => ?_) | (apply gT; (exact rfl)) | (apply off; (exact rfl); (exact rfl)) | (apply condT; (exact rfl)) | (apply condF; (exact rfl)) | ((first | (apply stp0; (exact rfl); (exact rfl)) | (apply stpN0; (exact rfl)) | apply gT | apply condT | ((first | apply bodyQ_d0 | apply bodyQ_d1 | apply bodyQ_d2 | apply bodyQ_d3 | apply bodyQ_d4); (exact .inr rfl); (rw [Try.results27]))); (first | (focus (simp only [go_sem, ↓reduceIte, simprocAttr, Hd.cs, e] <;> rfl)) | exact rfl); (first | (fail_if_success (show okD _ _ _ _ _ _ _ _ _)) | (first | exact okT | exact okN | exact okE rfl)); (first | (fail_if_success (show Bel _ _)) | (focus first | exact .val _ | (simp [oneOf, Bel_iff_tup, Bel_iff_agg, Bel_iff_rsl, Bel_iff_fn, Bel_iff_rptr, Bel_val]; done)))) | refine thenQ_n ?_ | refine thenQ_r ?_ | refine thenQ_e ?_ | refine blockQ_n ?_ | refine blockQ_r ?_ | refine blockQ_e ?_ | (apply blockQ_o; (exact rfl)) | refine Awp.seq ?_ | refine Awp.skip ?_ | refine Awp.block ?_ | refine reg (fun s => false) ?_ | (apply drwE mixed (fun s => false); (kernel_rfl)) | refine fin ?_ | refine Awp.ret ?_ | refine Awp.exit ?_ | ((first | (apply off; (exact rfl)) | apply condF); (first | (focus (simp only [go_sem, ↓reduceIte, simprocAttr, Hd.cs, e] <;> rfl)) | exact rfl)))
    all_goals first | contradiction | (exfalso; omega) | rfl | skip
  | false =>
    refine ACalls.of_body Try.func27 rfl (by kernel_rfl) (by rw [Try.ntmps27]; simp) ?_; rw [Try.ntmps27]
    repeat' (first | refine spD (fun _ => ?_) (fun _ => ?_) | refine spF (fun _ => ?_) (fun _ => ?_) | (apply gT; (exact rfl)) | (apply off; (exact rfl); (exact rfl)) | (apply condT; (exact rfl)) | (apply condF; (exact rfl)) | ((first | (apply stp0; (exact rfl); (exact rfl)) | (apply stpN0; (exact rfl)) | apply gT | apply condT | ((first | apply bodyQ_d0 | apply bodyQ_d1 | apply bodyQ_d2 | apply bodyQ_d3 | apply bodyQ_d4); (exact .inr rfl); (rw [Try.results27]))); (first | (focus (simp only [go_sem, ↓reduceIte, simprocAttr, Hd.cs, e] <;> rfl)) | exact rfl); (first | (fail_if_success (show okD _ _ _ _ _ _ _ _ _)) | (first | exact okT | exact okN | exact okE rfl)); (first | (fail_if_success (show Bel _ _)) | (focus first | exact .val _ | (simp [oneOf, Bel_iff_tup, Bel_iff_agg, Bel_iff_rsl, Bel_iff_fn, Bel_iff_rptr, Bel_val]; done)))) | refine thenQ_n ?_ | refine thenQ_r ?_ | refine thenQ_e ?_ | refine blockQ_n ?_ | refine blockQ_r ?_ | refine blockQ_e ?_ | (apply blockQ_o; (exact rfl)) | refine Awp.seq ?_ | refine Awp.skip ?_ | refine Awp.block ?_ | refine reg (fun s => false) ?_ | (apply drwE mixed (fun s => false); (kernel_rfl)) | refine fin ?_ | refine Awp.ret ?_ | refine Awp.exit ?_ | ((first | (apply off; (exact rfl)) | apply condF); (first | (focus (simp only [go_sem, ↓reduceIte, simprocAttr, Hd.cs, e] <;> rfl)) | exact rfl)))
    all_goals first | contradiction | (exfalso; omega) | rfl | skip

/-- a record by small numbers -/
structure Pc where
  id : Int
  cls : Int
  made : Int
  size : Int
  pk : Int
def Pc.cs (p : Pc) : List AV := [u8v p.id, u8v p.cls, u8v p.made, u8v p.size, u8v p.pk]
def Pc.in8 (p : Pc) : Prop := (0 ≤ p.id ∧ p.id ≤ 255) ∧ (0 ≤ p.cls ∧ p.cls ≤ 255) ∧ (0 ≤ p.made ∧ p.made ≤ 255) ∧ (0 ≤ p.size ∧ p.size ≤ 255) ∧ (0 ≤ p.pk ∧ p.pk ≤ 255)
def Pc.item (p : Pc) : Item := ⟨p.id.tmod 64, p.cls.tmod 10, p.made.tmod 16, 1 + p.size, 1 + p.pk.tmod (1 + p.size)⟩
theorem tmod_in {x y : Int} (hx : 0 ≤ x) (hy : 0 < y) : 0 ≤ x.tmod y ∧ x.tmod y < y := ⟨Int.tmod_nonneg _ hx, Int.tmod_lt_of_pos _ hy⟩
theorem Pc.item_ok {p : Pc} (h : p.in8) : p.item.ok := by
  obtain ⟨h1, h2, h3, h4, h5⟩ := h
  have a := tmod_in h1.1 (show (0 : Int) < 64 by omega)
  have b := tmod_in h2.1 (show (0 : Int) < 10 by omega)
  have c := tmod_in h3.1 (show (0 : Int) < 16 by omega)
  have d := tmod_in h5.1 (show (0 : Int) < 1 + p.size by omega)
  simp only [Item.ok, Pc.item]
  generalize p.id.tmod 64 = x1 at *
  generalize p.cls.tmod 10 = x2 at *
  generalize p.made.tmod 16 = x3 at *
  generalize p.pk.tmod (1 + p.size) = x4 at *
  omega

set_option maxRecDepth 8000 in
theorem record_ok (H : Hp) (p : Pc) (h : p.in8) : CallsTo Try.prog 22 [.agg p.cs] H (.agg p.item.cs) H := by
  have hr := Pc.item_ok h
  obtain ⟨h1, h2, h3, h4, h5⟩ := h
  have w1 : IntKind.i64.wrap p.id = p.id := w64 (by omega) (by omega)
  have w2 : IntKind.i64.wrap p.cls = p.cls := w64 (by omega) (by omega)
  have w3 : IntKind.i64.wrap p.made = p.made := w64 (by omega) (by omega)
  have w4 : IntKind.i64.wrap p.size = p.size := w64 (by omega) (by omega)
  have w5 : IntKind.i64.wrap p.pk = p.pk := w64 (by omega) (by omega)
  have w6 : IntKind.i64.wrap (1 + p.size) = 1 + p.size := w64 (by omega) (by omega)
  have hz : ¬ (1 + p.size) = 0 := by omega
  have d := tmod_in h5.1 (show (0 : Int) < 1 + p.size by omega)
  have w7 : IntKind.i64.wrap (1 + p.pk.tmod (1 + p.size)) = 1 + p.pk.tmod (1 + p.size) := by
    generalize p.pk.tmod (1 + p.size) = z at *
    exact w64 (by omega) (by omega)
  refine ACalls.of_body Try.func22 rfl (by kernel_rfl) (by rw [Try.ntmps22]; simp) ?_; rw [Try.ntmps22]
  repeat' (first | refine spD (fun _ => ?_) (fun _ => ?_) | refine spF (fun _ => ?_) (fun _ => ?_) | (apply gT; (exact rfl)) | (apply off; (exact rfl); (exact rfl)) | (apply condT; (exact rfl)) | (apply condF; (exact rfl)) | ((first | (apply stp0; (exact rfl); (exact rfl)) | (apply stpN0; (exact rfl)) | apply gT | apply condT); (first | (focus (simp only [go_sem, ↓reduceIte, simprocAttr, Pc.cs, u8v, w1, w2, w3, w4, w5, w6, w7, hz, ne_eq, not_false_eq_true] <;> rfl)) | exact rfl); (first | (fail_if_success (show okD _ _ _ _ _ _ _ _ _)) | (first | exact okT | exact okN | exact okE rfl))) | refine thenQ_n ?_ | refine thenQ_r ?_ | refine thenQ_e ?_ | refine blockQ_n ?_ | refine blockQ_r ?_ | refine blockQ_e ?_ | (apply blockQ_o; (exact rfl)) | refine Awp.seq ?_ | refine Awp.skip ?_ | refine Awp.block ?_ | refine reg (fun s => s == 2) ?_ | (apply drwL mixed (fun s => s == 2) (.of fun _ => false); (exact rfl); (kernel_rfl); (kernel_rfl); simp only [List.pop_toArray, List.dropLast_cons_cons, List.dropLast_singleton, List.map_cons, List.map_nil]) | refine fin ?_ | refine Awp.ret ?_ | refine Awp.exit ?_ | ((first | (apply off; (exact rfl)) | apply condF); (first | (focus (simp only [go_sem, ↓reduceIte, simprocAttr, Pc.cs, u8v, w1, w2, w3, w4, w5, w6, w7, hz, ne_eq, not_false_eq_true] <;> rfl)) | exact rfl)))
  all_goals first | contradiction | (exfalso; omega) | skip
  refine bodyQ_sameG (vs := [.agg (Pc.item p).cs]) (.inr rfl) ?_ ((Grow.refl _).app _) ?_ rfl
  · rw [Try.results22]; first | (simp only [go_sem, ↓reduceIte, simprocAttr, Pc.item, Item.cs]; done) | (simp only [go_sem, ↓reduceIte, simprocAttr, Pc.item, Item.cs]; rfl)
  · show Bel H.length (.agg (Pc.item p).cs)
    rw [Bel_iff_agg]
    intro c hc
    simp only [Item.cs, List.mem_cons, List.not_mem_nil, or_false] at hc
    rcases hc with rfl | rfl | rfl | rfl | rfl <;> exact .val _

end Go.Proofs.Ytlhchnnfgppneaa.Ab
namespace Go.Proofs.Ytlhchnnfgppneaa.Ab
open Go Go.RowKit Go.Proofs
set_option linter.unusedSimpArgs false
set_option linter.unusedVariables false
attribute [local irreducible] Awp wpO thenQ blockQ bodyQ ACalls stepA

theorem fnd_none {x : Int} {L : List Hd} (h : x ∉ idsL L) : fnd x L 0 = -1 := by
  rcases fnd_spec (x := x) L 0 with ⟨h1, _⟩ | ⟨k, y, _, h2, h3⟩
  · exact h1
  · exact absurd (List.mem_map.2 ⟨y, List.mem_of_getElem? h2, h3⟩) h
theorem fnd_ge {x : Int} {L : List Hd} : 0 ≤ fnd x L 0 ↔ x ∈ idsL L := by
  rcases fnd_spec (x := x) L 0 with ⟨h1, h2⟩ | ⟨k, y, h1, h2, h3⟩
  · rw [h1]; exact ⟨fun h => by omega, fun h => absurd h h2⟩
  · rw [h1]; exact ⟨fun _ => List.mem_map.2 ⟨y, List.mem_of_getElem? h2, h3⟩, fun _ => by omega⟩
theorem fnd_at {L : List Hd} (hn : (idsL L).Nodup) {i : Nat} {h : Hd} (hi : L[i]? = some h) : fnd h.r.id L 0 = (i : Int) := by
  rcases fnd_spec (x := h.r.id) L 0 with ⟨_, h2⟩ | ⟨k, y, h1, h2, h3⟩
  · exact absurd (List.mem_map.2 ⟨h, List.mem_of_getElem? hi, rfl⟩) h2
  · rw [h1]
    have a1 : (idsL L)[i]? = some h.r.id := by unfold idsL; rw [List.getElem?_map, hi]; rfl
    have a2 : (idsL L)[k]? = some h.r.id := by unfold idsL; rw [List.getElem?_map, h2, ← h3]; rfl
    have l1 := List.getElem?_eq_some_iff.1 a1
    have l2 := List.getElem?_eq_some_iff.1 a2
    have : i = k := by
      rcases Nat.lt_trichotomy i k with c | c | c
      · exact absurd (l1.2.trans l2.2.symm) (List.pairwise_iff_getElem.1 hn i k l1.1 l2.1 c)
      · exact c
      · exact absurd (l2.2.trans l1.2.symm) (List.pairwise_iff_getElem.1 hn k i l2.1 l1.1 c)
    subst this; simp

/-- what a Put that is not refused leaves -/
structure Kept (S : Bf) (r : Item) (S' : Bf) (ds : List Int) : Prop where
  good : Good S'
  cap : S'.cap = S.cap
  time : S'.time = S.time
  used : S'.used ≤ S'.cap
  l256 : S'.L.length ≤ 256
  len : S'.L.length + ds.length = S.L.length + 1
  was : ∀ h ∈ S'.L, (fnd h.r.id S.L 0 = -1 ∧ h.r = r) ∨ ∃ (i : Nat) (y : Hd), fnd h.r.id S.L 0 = i ∧ S.L[i]? = some y ∧ (y.sm = true → h.sm = true)
  mem : ∀ h ∈ S'.L, h.r = r ∨ ∃ y ∈ S.L, y.r = h.r
  drp : ∀ d ∈ ds, ∃ x : Item, x.id = d ∧ (x = r ∨ ∃ y ∈ S.L, y.r = x) ∧ ∀ h ∈ S'.L, lessR x h.r ∧ (h.sm = true ∨ ¬ h.r.pk < h.r.size)
theorem kept {S : Bf} {r : Item} (hg : Good S) (hl : S.L.length ≤ 255) (hE : putE S r = 0) : Kept S r (putR S r).1 (putR S r).2 := by
  obtain ⟨hr, hm⟩ : r.ok ∧ r.id ∉ idsL S.L := by
    rcases putE_ok S r with ⟨_, _, h⟩ | ⟨h1, _, ⟨_, h⟩ | ⟨h2, ⟨_, h⟩ | ⟨_, _⟩⟩⟩
    · rw [hE] at h; cases h
    · rw [hE] at h; cases h
    · rw [hE] at h; cases h
    · exact ⟨h1, h2⟩
  have hgi := hg.insG (by omega) hr hm
  obtain ⟨hs, hno⟩ := shr_spec (S.ins r).mu (Shr.start hgi) (Nat.le_refl _)
  have hP : putR S r = shr (S.ins r).mu (S.ins r) [] := by unfold putR; rw [if_pos hE]
  rw [← hP] at hs hno
  generalize (putR S r).1 = S' at *
  generalize (putR S r).2 = ds at *
  have hil : (S.ins r).L.length = S.L.length + 1 := insA_len
  have hmem : ∀ y, y ∈ (S.ins r).L ↔ y = ⟨r, false, -1⟩ ∨ y ∈ S.L := fun y => insA_mem
  have hat : ∀ (k : Nat) (h : Hd), S'.L[k]? = some h → ∃ y : Hd, (S.ins r).L[k]? = some y ∧ y.r = h.r ∧ (y.sm = true → h.sm = true) := by
    intro k h hk
    have hkl := (List.getElem?_eq_some_iff.1 hk).1
    have h1 : (recs S'.L)[k]? = some h.r := by unfold recs; rw [List.getElem?_map, hk]; rfl
    rw [hs.recs, List.getElem?_take, if_pos hkl] at h1
    unfold recs at h1
    rw [List.getElem?_map] at h1
    cases e : (S.ins r).L[k]? with
    | none => rw [e] at h1; cases h1
    | some y =>
      rw [e] at h1
      have h2 : y.r = h.r := by simpa using h1
      exact ⟨y, rfl, h2, (hs.keep k h y hk e).1⟩
  unfold Bf.over at hno
  refine ⟨hs.good, hs.cap, hs.time, by omega, by omega, by rw [hs.len, hil], ?_, ?_, ?_⟩
  · intro h hh
    obtain ⟨k, hk⟩ := List.getElem?_of_mem hh
    obtain ⟨y, hy, he, hsm⟩ := hat k h hk
    rcases (hmem y).1 (List.mem_of_getElem? hy) with rfl | hyS
    · have he' : r = h.r := he
      rw [← he']
      exact .inl ⟨fnd_none hm, rfl⟩
    · obtain ⟨i, hi⟩ := List.getElem?_of_mem hyS
      rw [← he]
      exact .inr ⟨i, y, fnd_at hg.nd hi, hi, hsm⟩
  · intro h hh
    obtain ⟨k, hk⟩ := List.getElem?_of_mem hh
    obtain ⟨y, hy, he, _⟩ := hat k h hk
    rcases (hmem y).1 (List.mem_of_getElem? hy) with rfl | hyS
    · exact .inl he.symm
    · exact .inr ⟨y, hyS, he⟩
  · intro d hd
    obtain ⟨x, hx, hxd⟩ := hs.drp d hd
    obtain ⟨j, hj⟩ := List.getElem?_of_mem hx
    rw [List.getElem?_drop] at hj
    unfold recs at hj
    rw [List.getElem?_map] at hj
    cases e : (S.ins r).L[S'.L.length + j]? with
    | none => rw [e] at hj; cases hj
    | some y =>
      rw [e] at hj
      have hyx : y.r = x := by simpa using hj
      refine ⟨x, hxd, ?_, fun h hh => ⟨?_, ?_⟩⟩
      · rcases (hmem y).1 (List.mem_of_getElem? e) with rfl | hyS
        · exact .inl hyx.symm
        · exact .inr ⟨y, hyS, hyx⟩
      · obtain ⟨k, hk⟩ := List.getElem?_of_mem hh
        have hkl := (List.getElem?_eq_some_iff.1 hk).1
        obtain ⟨z, hz, hze, _⟩ := hat k h hk
        have g1 := List.getElem?_eq_some_iff.1 hz
        have g2 := List.getElem?_eq_some_iff.1 e
        have := List.pairwise_iff_getElem.1 hgi.srt k (S'.L.length + j) g1.1 g2.1 (by omega)
        rw [g1.2, g2.2, hyx, hze] at this
        exact this
      · have := hs.no (by rw [hil]; omega) (List.ne_nil_of_mem hd) h hh
        cases e2 : h.sm with
        | true => exact .inl rfl
        | false =>
          right
          intro k
          rw [loose_iff.2 ⟨e2, k⟩] at this; cases this

/-- what the map of all records holds -/
structure AllM (ka : List (Int × AV)) (L : List Hd) : Prop where
  nd : (ka.map (·.1)).Nodup
  at_ : ∀ h ∈ L, getM ka h.r.id = some (.agg h.r.cs)
theorem AllM.put {ka : List (Int × AV)} {S S' : Bf} {r : Item} {ds : List Int} (h : AllM ka S.L) (hm : r.id ∉ idsL S.L) (hk : Kept S r S' ds) : AllM (setM r.id (.agg r.cs) ka) S'.L ∧ ∀ d ∈ ds, ∃ x : Item, getM (setM r.id (.agg r.cs) ka) d = some (.agg x.cs) ∧ (x = r ∨ ∃ y ∈ S.L, y.r = x) ∧ ∀ h ∈ S'.L, lessR x h.r ∧ (h.sm = true ∨ ¬ h.r.pk < h.r.size) := by
  have key : ∀ x : Item, (x = r ∨ ∃ y ∈ S.L, y.r = x) → getM (setM r.id (.agg r.cs) ka) x.id = some (.agg x.cs) := by
    intro x hx
    rw [getM_set]
    rcases hx with rfl | ⟨y, hy, rfl⟩
    · rw [if_pos rfl]
    · rw [if_neg (fun e => hm (by rw [← e]; exact List.mem_map.2 ⟨y, hy, rfl⟩))]
      exact h.at_ y hy
  refine ⟨⟨(setM_keys _ _ ka h.nd).1, fun x hx => key x.r ?_⟩, fun d hd => ?_⟩
  · rcases hk.mem x hx with e | ⟨y, hy, e⟩
    · exact .inl e
    · exact .inr ⟨y, hy, e⟩
  · obtain ⟨x, e, hx, hh⟩ := hk.drp d hd
    exact ⟨x, by rw [← e]; exact key x hx, hx, hh⟩

end Go.Proofs.Ytlhchnnfgppneaa.Ab
namespace Go.Proofs.Ytlhchnnfgppneaa.Ab
open Go Go.RowKit Go.Proofs
set_option linter.unusedSimpArgs false
set_option linter.unusedVariables false
attribute [local irreducible] Awp wpO thenQ blockQ bodyQ ACalls stepA

set_option maxRecDepth 8000 in
theorem ack1_ok {H : Hp} {F : Ft} {w : Rw} (hR : RepW H F w) (s : List (Int × Int)) (ex : Bool) (hc : setC s = 0) (hm : s.length ≤ maxLen) (id : Int) (r : Item) (sm : Int) (h1 : (getM w.kr id).getD recZ = .agg r.cs) (h2 : (getM w.ks id).getD (iv 0) = iv sm)
    (hu : -1099511627776 ≤ w.used - (if sm > 0 then r.pk else r.size) ∧ w.used - (if sm > 0 then r.pk else r.size) ≤ 1099511627776) :
    ACalls Try.prog 67 [iv id, .rptr [.rsl (sps s) ex] 0, .rptr [.mptr F.b 0 0] 0] H fun v1 H1 => v1 = bv (isInB s id) ∧ (isInB s id = true → RepW H1 F { w with used := w.used - (if sm > 0 then r.pk else r.size), kr := delM id w.kr, ks := delM id w.ks, kt := delM id w.kt } ∧ Fr F H H1) ∧ (isInB s id = false → H1 = H) := by
  have hh := fun H => bhas_ok H s ex hc hm id
  have hrm := remove_ok hR id r sm h1 h2 hu
  cases e : isInB s id with
  | true =>
    rw [e] at hh
    refine ACalls.of_body Try.func67 rfl (by kernel_rfl) (by rw [Try.ntmps67]; simp) ?_; rw [Try.ntmps67]
    repeat' (first | refine spD (fun _ => ?_) (fun _ => ?_) | refine spF (fun _ => ?_) (fun _ => ?_) | (apply gT; (exact rfl)) | (apply off; (exact rfl); (exact rfl)) | (apply condT; (exact rfl)) | (apply condF; (exact rfl)) | ((first | (apply stp0; (exact rfl); (exact rfl)) | (apply stpN0; (exact rfl)) | apply gT | apply condT | ((first | apply bodyQ_d0 | apply bodyQ_d1 | apply bodyQ_d2 | apply bodyQ_d3 | apply bodyQ_d4); (exact .inr rfl); (rw [Try.results67]))); (first | (focus (simp only [go_sem, ↓reduceIte, simprocAttr] <;> rfl)) | exact rfl); (first | (fail_if_success (show okD _ _ _ _ _ _ _ _ _)) | (first | exact okT | exact okN | exact okE rfl)); (first | (fail_if_success (show Bel _ _)) | (focus first | exact .val _ | (simp [oneOf, Bel_iff_tup, Bel_iff_agg, Bel_iff_rsl, Bel_iff_fn, Bel_iff_rptr, Bel_val]; done)))) | (apply calTo0; (exact rfl); (iterate 2 (simp only [go_sem, ↓reduceIte, simprocAttr]; rfl)); (first | exact hh _); (first | exact okT | exact okN | exact okE rfl)) | refine thenQ_n ?_ | refine thenQ_r ?_ | refine thenQ_e ?_ | refine blockQ_n ?_ | refine blockQ_r ?_ | refine blockQ_e ?_ | (apply blockQ_o; (exact rfl)) | refine Awp.seq ?_ | refine Awp.skip ?_ | refine Awp.block ?_ | refine reg (fun s => false) ?_ | (apply drwE mixed (fun s => false); (kernel_rfl)) | refine fin ?_ | refine Awp.ret ?_ | refine Awp.exit ?_ | ((first | (apply off; (exact rfl)) | apply condF); (first | (focus (simp only [go_sem, ↓reduceIte, simprocAttr] <;> rfl)) | exact rfl)))
    all_goals first | contradiction | (exfalso; omega) | skip
    refine cal rfl rfl rfl ?_ (show ACallV Try.prog (.fn (.func 61) []) [.mptr F.b 0 0, iv id] H _ from hrm) ?_
    · (first | (focus (simp only [go_sem, ↓reduceIte, simprocAttr]; first | done | rfl)) | rfl)
    rintro v1 K ⟨rfl, hR2, hF⟩
    repeat' (first | refine spD (fun _ => ?_) (fun _ => ?_) | refine spF (fun _ => ?_) (fun _ => ?_) | (apply gT; (exact rfl)) | (apply off; (exact rfl); (exact rfl)) | (apply condT; (exact rfl)) | (apply condF; (exact rfl)) | ((first | (apply stp0; (exact rfl); (exact rfl)) | (apply stpN0; (exact rfl)) | apply gT | apply condT); (first | (focus (simp only [go_sem, ↓reduceIte, simprocAttr] <;> rfl)) | exact rfl); (first | (fail_if_success (show okD _ _ _ _ _ _ _ _ _)) | (first | exact okT | exact okN | exact okE rfl))) | refine thenQ_n ?_ | refine thenQ_r ?_ | refine thenQ_e ?_ | refine blockQ_n ?_ | refine blockQ_r ?_ | refine blockQ_e ?_ | (apply blockQ_o; (exact rfl)) | refine Awp.seq ?_ | refine Awp.skip ?_ | refine Awp.block ?_ | refine reg (fun s => false) ?_ | (apply drwE mixed (fun s => false); (kernel_rfl)) | refine fin ?_ | refine Awp.ret ?_ | refine Awp.exit ?_ | ((first | (apply off; (exact rfl)) | apply condF); (first | (focus (simp only [go_sem, ↓reduceIte, simprocAttr] <;> rfl)) | exact rfl)))
    all_goals first | contradiction | (exfalso; omega) | skip
    exact bodyQ_mk (vs := [bv true]) (.inr rfl) (by rw [Try.results67]; simp only [go_sem, ↓reduceIte, simprocAttr]) (Vs.refl _ _ _) ⟨rfl, fun _ => ⟨hR2, hF⟩, (fun h => by cases h)⟩
  | false =>
    rw [e] at hh
    refine ACalls.of_body Try.func67 rfl (by kernel_rfl) (by rw [Try.ntmps67]; simp) ?_; rw [Try.ntmps67]
    repeat' (first | refine spD (fun _ => ?_) (fun _ => ?_) | refine spF (fun _ => ?_) (fun _ => ?_) | (apply gT; (exact rfl)) | (apply off; (exact rfl); (exact rfl)) | (apply condT; (exact rfl)) | (apply condF; (exact rfl)) | ((first | (apply stp0; (exact rfl); (exact rfl)) | (apply stpN0; (exact rfl)) | apply gT | apply condT); (first | (focus (simp only [go_sem, ↓reduceIte, simprocAttr] <;> rfl)) | exact rfl); (first | (fail_if_success (show okD _ _ _ _ _ _ _ _ _)) | (first | exact okT | exact okN | exact okE rfl))) | (apply calTo0; (exact rfl); (iterate 2 (simp only [go_sem, ↓reduceIte, simprocAttr]; rfl)); (first | exact hh _); (first | exact okT | exact okN | exact okE rfl)) | refine thenQ_n ?_ | refine thenQ_r ?_ | refine thenQ_e ?_ | refine blockQ_n ?_ | refine blockQ_r ?_ | refine blockQ_e ?_ | (apply blockQ_o; (exact rfl)) | refine Awp.seq ?_ | refine Awp.skip ?_ | refine Awp.block ?_ | refine reg (fun s => false) ?_ | (apply drwE mixed (fun s => false); (kernel_rfl)) | refine fin ?_ | refine Awp.ret ?_ | refine Awp.exit ?_ | ((first | (apply off; (exact rfl)) | apply condF); (first | (focus (simp only [go_sem, ↓reduceIte, simprocAttr] <;> rfl)) | exact rfl)))
    all_goals first | contradiction | (exfalso; omega) | skip
    exact bodyQ_mk (vs := [bv false]) (.inr rfl) (by rw [Try.results67]; simp only [go_sem, ↓reduceIte, simprocAttr]) (Vs.refl _ _ _) ⟨rfl, (fun h => by cases h), fun _ => rfl⟩

end Go.Proofs.Ytlhchnnfgppneaa.Ab
