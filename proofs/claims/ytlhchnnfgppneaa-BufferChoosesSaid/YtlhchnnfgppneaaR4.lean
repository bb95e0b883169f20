/- Best: are all parcels valid; the place in a row. -/
import Derived.Test.YtlhchnnfgppneaaR0
namespace Go.Proofs.Ytlhchnnfgppneaa.Ab
open Go Go.RowKit Go.Proofs
set_option linter.unusedSimpArgs false
set_option linter.unusedVariables false
attribute [local irreducible] Awp wpO thenQ blockQ bodyQ ACalls stepA

def idxP (p : Pr → Bool) : Nat → List Pr → Int
  | _, [] => -1
  | i, a :: l => if p a = true then i else idxP p (i + 1) l
theorem idxP_drop {p : Pr → Bool} {v : List Pr} {i : Nat} {a : Pr} (h : v[i]? = some a) : idxP p i (v.drop i) = if p a = true then (i : Int) else idxP p (i + 1) (v.drop (i + 1)) := by
  have hlt := (List.getElem?_eq_some_iff.1 h).1
  rw [List.drop_eq_getElem_cons hlt, (List.getElem?_eq_some_iff.1 h).2]
  rfl
theorem idxP_ge {p : Pr → Bool} : ∀ (v : List Pr) (i : Nat), (0 ≤ idxP p i v) ↔ v.any p = true
  | [], i => by simp [idxP]
  | a :: l, i => by
    unfold idxP
    by_cases h : p a = true
    · rw [if_pos h]; simp [h]
    · rw [if_neg h, idxP_ge l (i + 1)]; simp [h]

def badP (p : Pr) : Bool := !decide p.ok
theorem bad79_ok (H : Hp) (x : Pr) : CallsTo Try.prog 79 [.agg [iv x.size, iv x.worth]] H (bv (badP x)) H := by
  have h1 := fun H => outside_ok H x.size 1 16777216
  have h2 := fun H => outside_ok H x.worth 0 1048576
  unfold badP Pr.ok
  by_cases c1 : x.size < 1 ∨ x.size > 16777216
  · rw [decide_eq_true c1] at h1
    rw [show decide ((1 ≤ x.size ∧ x.size ≤ 16777216) ∧ 0 ≤ x.worth ∧ x.worth ≤ 1048576) = false by rw [decide_eq_false_iff_not]; omega]
    refine ACalls.of_body Try.func79 rfl (by kernel_rfl) (by rw [Try.ntmps79]; simp) ?_; rw [Try.ntmps79]
    repeat' (first | refine spD (fun _ => ?_) (fun _ => ?_) | refine spF (fun _ => ?_) (fun _ => ?_) | (apply gT; (exact rfl)) | (apply off; (exact rfl); (exact rfl)) | (apply condT; (exact rfl)) | (apply condF; (exact rfl)) | ((first | (apply stp0; (exact rfl); (exact rfl)) | (apply stpN0; (exact rfl)) | apply gT | apply condT | ((first | apply bodyQ_d0 | apply bodyQ_d1 | apply bodyQ_d2 | apply bodyQ_d3 | apply bodyQ_d4); (exact .inr rfl); (rw [Try.results79]))); (first | (focus (simp only [go_sem, ↓reduceIte, simprocAttr] <;> rfl)) | exact rfl); (first | (fail_if_success (show okD _ _ _ _ _ _ _ _ _)) | (first | exact okT | exact okN | exact okE rfl)); (first | (fail_if_success (show Bel _ _)) | (focus first | exact .val _ | (simp [oneOf, Bel_iff_tup, Bel_iff_agg, Bel_iff_rsl, Bel_iff_fn, Bel_iff_rptr, Bel_val]; done)))) | (apply calTo0; (exact rfl); (iterate 2 (simp only [go_sem, ↓reduceIte, simprocAttr]; rfl)); (first | exact h1 _ | exact h2 _); (first | exact okT | exact okN | exact okE rfl)) | refine thenQ_n ?_ | refine thenQ_r ?_ | refine thenQ_e ?_ | refine blockQ_n ?_ | refine blockQ_r ?_ | refine blockQ_e ?_ | (apply blockQ_o; (exact rfl)) | refine Awp.seq ?_ | refine Awp.skip ?_ | refine Awp.block ?_ | refine reg (fun s => false) ?_ | (apply drwE mixed (fun s => false); (kernel_rfl)) | refine fin ?_ | refine Awp.ret ?_ | refine Awp.exit ?_ | ((first | (apply off; (exact rfl)) | apply condF); (first | (focus (simp only [go_sem, ↓reduceIte, simprocAttr] <;> rfl)) | exact rfl)))
    all_goals first | rfl | contradiction | (exfalso; omega) | skip
  · rw [decide_eq_false c1] at h1
    by_cases c2 : x.worth < 0 ∨ x.worth > 1048576
    · rw [decide_eq_true c2] at h2
      rw [show decide ((1 ≤ x.size ∧ x.size ≤ 16777216) ∧ 0 ≤ x.worth ∧ x.worth ≤ 1048576) = false by rw [decide_eq_false_iff_not]; omega]
      refine ACalls.of_body Try.func79 rfl (by kernel_rfl) (by rw [Try.ntmps79]; simp) ?_; rw [Try.ntmps79]
      repeat' (first | refine spD (fun _ => ?_) (fun _ => ?_) | refine spF (fun _ => ?_) (fun _ => ?_) | (apply gT; (exact rfl)) | (apply off; (exact rfl); (exact rfl)) | (apply condT; (exact rfl)) | (apply condF; (exact rfl)) | ((first | (apply stp0; (exact rfl); (exact rfl)) | (apply stpN0; (exact rfl)) | apply gT | apply condT | ((first | apply bodyQ_d0 | apply bodyQ_d1 | apply bodyQ_d2 | apply bodyQ_d3 | apply bodyQ_d4); (exact .inr rfl); (rw [Try.results79]))); (first | (focus (simp only [go_sem, ↓reduceIte, simprocAttr] <;> rfl)) | exact rfl); (first | (fail_if_success (show okD _ _ _ _ _ _ _ _ _)) | (first | exact okT | exact okN | exact okE rfl)); (first | (fail_if_success (show Bel _ _)) | (focus first | exact .val _ | (simp [oneOf, Bel_iff_tup, Bel_iff_agg, Bel_iff_rsl, Bel_iff_fn, Bel_iff_rptr, Bel_val]; done)))) | (apply calTo0; (exact rfl); (iterate 2 (simp only [go_sem, ↓reduceIte, simprocAttr]; rfl)); (first | exact h1 _ | exact h2 _); (first | exact okT | exact okN | exact okE rfl)) | refine thenQ_n ?_ | refine thenQ_r ?_ | refine thenQ_e ?_ | refine blockQ_n ?_ | refine blockQ_r ?_ | refine blockQ_e ?_ | (apply blockQ_o; (exact rfl)) | refine Awp.seq ?_ | refine Awp.skip ?_ | refine Awp.block ?_ | refine reg (fun s => false) ?_ | (apply drwE mixed (fun s => false); (kernel_rfl)) | refine fin ?_ | refine Awp.ret ?_ | refine Awp.exit ?_ | ((first | (apply off; (exact rfl)) | apply condF); (first | (focus (simp only [go_sem, ↓reduceIte, simprocAttr] <;> rfl)) | exact rfl)))
      all_goals first | rfl | contradiction | (exfalso; omega) | skip
    · rw [decide_eq_false c2] at h2
      rw [show decide ((1 ≤ x.size ∧ x.size ≤ 16777216) ∧ 0 ≤ x.worth ∧ x.worth ≤ 1048576) = true by rw [decide_eq_true_eq]; omega]
      refine ACalls.of_body Try.func79 rfl (by kernel_rfl) (by rw [Try.ntmps79]; simp) ?_; rw [Try.ntmps79]
      repeat' (first | refine spD (fun _ => ?_) (fun _ => ?_) | refine spF (fun _ => ?_) (fun _ => ?_) | (apply gT; (exact rfl)) | (apply off; (exact rfl); (exact rfl)) | (apply condT; (exact rfl)) | (apply condF; (exact rfl)) | ((first | (apply stp0; (exact rfl); (exact rfl)) | (apply stpN0; (exact rfl)) | apply gT | apply condT | ((first | apply bodyQ_d0 | apply bodyQ_d1 | apply bodyQ_d2 | apply bodyQ_d3 | apply bodyQ_d4); (exact .inr rfl); (rw [Try.results79]))); (first | (focus (simp only [go_sem, ↓reduceIte, simprocAttr] <;> rfl)) | exact rfl); (first | (fail_if_success (show okD _ _ _ _ _ _ _ _ _)) | (first | exact okT | exact okN | exact okE rfl)); (first | (fail_if_success (show Bel _ _)) | (focus first | exact .val _ | (simp [oneOf, Bel_iff_tup, Bel_iff_agg, Bel_iff_rsl, Bel_iff_fn, Bel_iff_rptr, Bel_val]; done)))) | (apply calTo0; (exact rfl); (iterate 2 (simp only [go_sem, ↓reduceIte, simprocAttr]; rfl)); (first | exact h1 _ | exact h2 _); (first | exact okT | exact okN | exact okE rfl)) | refine thenQ_n ?_ | refine thenQ_r ?_ | refine thenQ_e ?_ | refine blockQ_n ?_ | refine blockQ_r ?_ | refine blockQ_e ?_ | (apply blockQ_o; (exact rfl)) | refine Awp.seq ?_ | refine Awp.skip ?_ | refine Awp.block ?_ | refine reg (fun s => false) ?_ | (apply drwE mixed (fun s => false); (kernel_rfl)) | refine fin ?_ | refine Awp.ret ?_ | refine Awp.exit ?_ | ((first | (apply off; (exact rfl)) | apply condF); (first | (focus (simp only [go_sem, ↓reduceIte, simprocAttr] <;> rfl)) | exact rfl)))
      all_goals first | rfl | contradiction | (exfalso; omega) | skip

set_option maxRecDepth 8000 in
theorem indexP_ok (H : Hp) (v : List Pr) (ex : Bool) (hm : v.length ≤ maxLen) : CallsTo Try.prog 106 [.rsl (prs v) ex, .fn (.func 79) []] H (iv (idxP badP 0 v)) H := by
  have hvl := prs_len v
  refine ACalls.of_body Try.func106 rfl (by kernel_rfl) (by rw [Try.ntmps106]; simp) ?_; rw [Try.ntmps106]
  repeat' (first | refine spD (fun _ => ?_) (fun _ => ?_) | refine spF (fun _ => ?_) (fun _ => ?_) | (apply gT; (exact rfl)) | (apply off; (exact rfl); (exact rfl)) | (apply condT; (exact rfl)) | (apply condF; (exact rfl)) | ((first | (apply stp0; (exact rfl); (exact rfl)) | (apply stpN0; (exact rfl)) | apply gT | apply condT | ((first | apply bodyQ_d0 | apply bodyQ_d1 | apply bodyQ_d2 | apply bodyQ_d3 | apply bodyQ_d4); (exact .inr rfl); (rw [Try.results106]))); (first | (focus (simp only [go_sem, ↓reduceIte, simprocAttr, hvl] <;> rfl)) | exact rfl); (first | (fail_if_success (show okD _ _ _ _ _ _ _ _ _)) | (first | exact okT | exact okN | exact okE rfl)); (first | (fail_if_success (show Bel _ _)) | (focus first | exact .val _ | (simp [oneOf, Bel_iff_tup, Bel_iff_agg, Bel_iff_rsl, Bel_iff_fn, Bel_iff_rptr, Bel_val]; done)))) | refine thenQ_n ?_ | refine thenQ_r ?_ | refine thenQ_e ?_ | refine blockQ_n ?_ | refine blockQ_r ?_ | refine blockQ_e ?_ | (apply blockQ_o; (exact rfl)) | refine Awp.seq ?_ | refine Awp.skip ?_ | refine Awp.block ?_ | refine reg (fun s => false) ?_ | (apply drwE mixed (fun s => false); (kernel_rfl)) | refine fin ?_ | refine Awp.ret ?_ | refine Awp.exit ?_ | ((first | (apply off; (exact rfl)) | apply condF); (first | (focus (simp only [go_sem, ↓reduceIte, simprocAttr, hvl] <;> rfl)) | exact rfl)))
  refine Awp.loop (ι := Nat) (fun i T' H' => i ≤ v.length ∧ T' 8 = iv i ∧ T' 7 = iv v.length ∧ T' 0 = .rsl (prs v) ex ∧ T' 1 = .fn (.func 79) [] ∧ H' = H ∧ idxP badP 0 v = idxP badP i (v.drop i)) (fun i => v.length - i) 0 ?_ ?_
  · exact ⟨by simp, by (first | (focus (simp only [go_sem, ↓reduceIte, simprocAttr]; first | done | rfl)) | rfl), by (first | (focus (simp only [go_sem, ↓reduceIte, simprocAttr, hvl]; first | done | rfl)) | rfl), by (first | (focus (simp only [go_sem, ↓reduceIte, simprocAttr]; first | done | rfl)) | rfl), by (first | (focus (simp only [go_sem, ↓reduceIte, simprocAttr]; first | done | rfl)) | rfl), rfl, rfl⟩
  rintro i T H' ⟨hi, h8, h7, h0, h1, hH, hno⟩
  subst hH
  by_cases hlt : i < v.length
  · obtain ⟨a, ha⟩ := nth hlt
    have hac := prs_at ha
    rw [idxP_drop ha] at hno
    have hw := wsucc hlt hm
    have hq := bad79_ok H' a
    cases hpa : badP a with
    | true =>
      rw [hpa] at hq hno
      repeat' (first | refine spD (fun _ => ?_) (fun _ => ?_) | refine spF (fun _ => ?_) (fun _ => ?_) | (apply gT; (exact rfl)) | (apply off; (exact rfl); (exact rfl)) | (apply condT; (exact rfl)) | (apply condF; (exact rfl)) | ((first | (apply stp0; (exact rfl); (exact rfl)) | (apply stpN0; (exact rfl)) | apply gT | apply condT | ((first | apply bodyQ_d0 | apply bodyQ_d1 | apply bodyQ_d2 | apply bodyQ_d3 | apply bodyQ_d4); (exact .inr rfl); (rw [Try.results106]))); (first | (focus (simp only [go_sem, ↓reduceIte, simprocAttr, h8, h7, h0, h1, hac, hvl, hw] <;> rfl)) | exact rfl); (first | (fail_if_success (show okD _ _ _ _ _ _ _ _ _)) | (first | exact okT | exact okN | exact okE rfl)); (first | (fail_if_success (show Bel _ _)) | (focus first | exact .val _ | (simp [oneOf, Bel_iff_tup, Bel_iff_agg, Bel_iff_rsl, Bel_iff_fn, Bel_iff_rptr, Bel_val]; done)))) | (apply calTo0; (exact rfl); (iterate 2 (simp only [go_sem, ↓reduceIte, simprocAttr, h8, h7, h0, h1, hac, hvl, hw]; rfl)); (first | exact hq); (first | exact okT | exact okN | exact okE rfl)) | refine thenQ_n ?_ | refine thenQ_r ?_ | refine thenQ_e ?_ | refine blockQ_n ?_ | refine blockQ_r ?_ | refine blockQ_e ?_ | (apply blockQ_o; (exact rfl)) | refine Awp.seq ?_ | refine Awp.skip ?_ | refine Awp.block ?_ | refine reg (fun s => false) ?_ | (apply drwE mixed (fun s => false); (kernel_rfl)) | refine fin ?_ | refine Awp.ret ?_ | refine Awp.exit ?_ | ((first | (apply off; (exact rfl)) | apply condF); (first | (focus (simp only [go_sem, ↓reduceIte, simprocAttr, h8, h7, h0, h1, hac, hvl, hw] <;> rfl)) | exact rfl)))
      all_goals first | (exfalso; omega) | skip
      rw [if_pos rfl] at hno
      rw [hno]; rfl
    | false =>
      rw [hpa] at hq hno
      repeat' (first | refine spD (fun _ => ?_) (fun _ => ?_) | refine spF (fun _ => ?_) (fun _ => ?_) | (apply gT; (exact rfl)) | (apply off; (exact rfl); (exact rfl)) | (apply condT; (exact rfl)) | (apply condF; (exact rfl)) | ((first | (apply stp0; (exact rfl); (exact rfl)) | (apply stpN0; (exact rfl)) | apply gT | apply condT | ((first | apply bodyQ_d0 | apply bodyQ_d1 | apply bodyQ_d2 | apply bodyQ_d3 | apply bodyQ_d4); (exact .inr rfl); (rw [Try.results106]))); (first | (focus (simp only [go_sem, ↓reduceIte, simprocAttr, h8, h7, h0, h1, hac, hvl, hw] <;> rfl)) | exact rfl); (first | (fail_if_success (show okD _ _ _ _ _ _ _ _ _)) | (first | exact okT | exact okN | exact okE rfl)); (first | (fail_if_success (show Bel _ _)) | (focus first | exact .val _ | (simp [oneOf, Bel_iff_tup, Bel_iff_agg, Bel_iff_rsl, Bel_iff_fn, Bel_iff_rptr, Bel_val]; done)))) | (apply calTo0; (exact rfl); (iterate 2 (simp only [go_sem, ↓reduceIte, simprocAttr, h8, h7, h0, h1, hac, hvl, hw]; rfl)); (first | exact hq); (first | exact okT | exact okN | exact okE rfl)) | refine thenQ_n ?_ | refine thenQ_r ?_ | refine thenQ_e ?_ | refine blockQ_n ?_ | refine blockQ_r ?_ | refine blockQ_e ?_ | (apply blockQ_o; (exact rfl)) | refine Awp.seq ?_ | refine Awp.skip ?_ | refine Awp.block ?_ | refine reg (fun s => false) ?_ | (apply drwE mixed (fun s => false); (kernel_rfl)) | refine fin ?_ | refine Awp.ret ?_ | refine Awp.exit ?_ | ((first | (apply off; (exact rfl)) | apply condF); (first | (focus (simp only [go_sem, ↓reduceIte, simprocAttr, h8, h7, h0, h1, hac, hvl, hw] <;> rfl)) | exact rfl)))
      all_goals first | (exfalso; omega) | skip
      rw [if_neg (by simp)] at hno
      exact ⟨i + 1, ⟨by omega, by (first | (focus (simp only [go_sem, ↓reduceIte, simprocAttr, hw]; first | done | rfl)) | rfl), by (first | (focus (simp only [go_sem, ↓reduceIte, simprocAttr, h7]; first | done | rfl)) | rfl), by (first | (focus (simp only [go_sem, ↓reduceIte, simprocAttr, h0]; first | done | rfl)) | rfl), by (first | (focus (simp only [go_sem, ↓reduceIte, simprocAttr, h1]; first | done | rfl)) | rfl), rfl, hno⟩, by omega⟩
  · repeat' ((fail_if_success (apply stopR (id := 3))); (fail_if_success (apply stopS (id := 3))); first | refine spD (fun _ => ?_) (fun _ => ?_) | refine spF (fun _ => ?_) (fun _ => ?_) | (apply gT; (exact rfl)) | (apply off; (exact rfl); (exact rfl)) | (apply condT; (exact rfl)) | (apply condF; (exact rfl)) | ((first | (apply stp0; (exact rfl); (exact rfl)) | (apply stpN0; (exact rfl)) | apply gT | apply condT | ((first | apply bodyQ_d0 | apply bodyQ_d1 | apply bodyQ_d2 | apply bodyQ_d3 | apply bodyQ_d4); (exact .inr rfl); (rw [Try.results106]))); (first | (focus (simp only [go_sem, ↓reduceIte, simprocAttr, h8, h7, h0, h1, hvl] <;> rfl)) | exact rfl); (first | (fail_if_success (show okD _ _ _ _ _ _ _ _ _)) | (first | exact okT | exact okN | exact okE rfl)); (first | (fail_if_success (show Bel _ _)) | (focus first | exact .val _ | (simp [oneOf, Bel_iff_tup, Bel_iff_agg, Bel_iff_rsl, Bel_iff_fn, Bel_iff_rptr, Bel_val]; done)))) | refine thenQ_n ?_ | refine thenQ_r ?_ | refine thenQ_e ?_ | refine blockQ_n ?_ | refine blockQ_r ?_ | refine blockQ_e ?_ | (apply blockQ_o; (exact rfl)) | refine Awp.seq ?_ | refine Awp.skip ?_ | refine Awp.block ?_ | refine reg (fun s => false) ?_ | (apply drwE mixed (fun s => false); (kernel_rfl)) | refine fin ?_ | refine Awp.ret ?_ | refine Awp.exit ?_ | ((first | (apply off; (exact rfl)) | apply condF); (first | (focus (simp only [go_sem, ↓reduceIte, simprocAttr, h8, h7, h0, h1, hvl] <;> rfl)) | exact rfl)))
    all_goals first | (exfalso; omega) | skip
    rw [hno, List.drop_of_length_le (by omega)]; rfl

theorem containsP_ok (H : Hp) (v : List Pr) (ex : Bool) (hm : v.length ≤ maxLen) : CallsTo Try.prog 78 [.rsl (prs v) ex, .fn (.func 79) []] H (bv (v.any badP)) H := by
  have hg := idxP_ge (p := badP) v 0
  have he : v.any badP = decide (idxP badP 0 v ≥ 0) := by
    show _ = decide (0 ≤ idxP badP 0 v)
    cases h : v.any badP with
    | true => rw [decide_eq_true (hg.2 h)]
    | false => rw [decide_eq_false (fun k => by rw [hg.1 k] at h; cases h)]
  have hi := indexP_ok H v ex hm
  rw [he]
  refine ACalls.of_body Try.func78 rfl (by kernel_rfl) (by rw [Try.ntmps78]; simp) ?_; rw [Try.ntmps78]
  repeat' (first | refine spD (fun _ => ?_) (fun _ => ?_) | refine spF (fun _ => ?_) (fun _ => ?_) | (apply gT; (exact rfl)) | (apply off; (exact rfl); (exact rfl)) | (apply condT; (exact rfl)) | (apply condF; (exact rfl)) | ((first | (apply stp0; (exact rfl); (exact rfl)) | (apply stpN0; (exact rfl)) | apply gT | apply condT | ((first | apply bodyQ_d0 | apply bodyQ_d1 | apply bodyQ_d2 | apply bodyQ_d3 | apply bodyQ_d4); (exact .inr rfl); (rw [Try.results78]))); (first | (focus (simp only [go_sem, ↓reduceIte, simprocAttr] <;> rfl)) | exact rfl); (first | (fail_if_success (show okD _ _ _ _ _ _ _ _ _)) | (first | exact okT | exact okN | exact okE rfl)); (first | (fail_if_success (show Bel _ _)) | (focus first | exact .val _ | (simp [oneOf, Bel_iff_tup, Bel_iff_agg, Bel_iff_rsl, Bel_iff_fn, Bel_iff_rptr, Bel_val]; done)))) | (apply calTo0; (exact rfl); (iterate 2 (simp only [go_sem, ↓reduceIte, simprocAttr]; rfl)); (first | exact hi); (first | exact okT | exact okN | exact okE rfl)) | refine thenQ_n ?_ | refine thenQ_r ?_ | refine thenQ_e ?_ | refine blockQ_n ?_ | refine blockQ_r ?_ | refine blockQ_e ?_ | (apply blockQ_o; (exact rfl)) | refine Awp.seq ?_ | refine Awp.skip ?_ | refine Awp.block ?_ | refine reg (fun s => false) ?_ | (apply drwE mixed (fun s => false); (kernel_rfl)) | refine fin ?_ | refine Awp.ret ?_ | refine Awp.exit ?_ | ((first | (apply off; (exact rfl)) | apply condF); (first | (focus (simp only [go_sem, ↓reduceIte, simprocAttr] <;> rfl)) | exact rfl)))
  all_goals first | rfl | contradiction | (exfalso; omega) | skip
  all_goals (rename_i h; first | (rw [decide_eq_true h]; rfl) | (rw [decide_eq_false h]; rfl))

/-- how many are no larger -/
theorem small87_ok (H : Hp) (c : Ch) (left : Int) : CallsTo Try.prog 87 [.agg [.val (.int .u32 c.bits), iv c.worth, iv c.size], iv left] H (iv (if c.size ≤ left then -1 else 1)) H := by
  by_cases h : c.size ≤ left
  · rw [if_pos h]
    refine ACalls.of_body Try.func87 rfl (by kernel_rfl) (by rw [Try.ntmps87]; simp) ?_; rw [Try.ntmps87]
    repeat' (first | refine spD (fun _ => ?_) (fun _ => ?_) | refine spF (fun _ => ?_) (fun _ => ?_) | (apply gT; (exact rfl)) | (apply off; (exact rfl); (exact rfl)) | (apply condT; (exact rfl)) | (apply condF; (exact rfl)) | ((first | (apply stp0; (exact rfl); (exact rfl)) | (apply stpN0; (exact rfl)) | apply gT | apply condT | ((first | apply bodyQ_d0 | apply bodyQ_d1 | apply bodyQ_d2 | apply bodyQ_d3 | apply bodyQ_d4); (exact .inr rfl); (rw [Try.results87]))); (first | (focus (simp only [go_sem, ↓reduceIte, simprocAttr, h] <;> rfl)) | exact rfl); (first | (fail_if_success (show okD _ _ _ _ _ _ _ _ _)) | (first | exact okT | exact okN | exact okE rfl)); (first | (fail_if_success (show Bel _ _)) | (focus first | exact .val _ | (simp [oneOf, Bel_iff_tup, Bel_iff_agg, Bel_iff_rsl, Bel_iff_fn, Bel_iff_rptr, Bel_val]; done)))) | refine thenQ_n ?_ | refine thenQ_r ?_ | refine thenQ_e ?_ | refine blockQ_n ?_ | refine blockQ_r ?_ | refine blockQ_e ?_ | (apply blockQ_o; (exact rfl)) | refine Awp.seq ?_ | refine Awp.skip ?_ | refine Awp.block ?_ | refine reg (fun s => false) ?_ | (apply drwE mixed (fun s => false); (kernel_rfl)) | refine fin ?_ | refine Awp.ret ?_ | refine Awp.exit ?_ | ((first | (apply off; (exact rfl)) | apply condF); (first | (focus (simp only [go_sem, ↓reduceIte, simprocAttr, h] <;> rfl)) | exact rfl)))
    all_goals first | rfl | contradiction | (exfalso; omega) | skip
  · rw [if_neg h]
    refine ACalls.of_body Try.func87 rfl (by kernel_rfl) (by rw [Try.ntmps87]; simp) ?_; rw [Try.ntmps87]
    repeat' (first | refine spD (fun _ => ?_) (fun _ => ?_) | refine spF (fun _ => ?_) (fun _ => ?_) | (apply gT; (exact rfl)) | (apply off; (exact rfl); (exact rfl)) | (apply condT; (exact rfl)) | (apply condF; (exact rfl)) | ((first | (apply stp0; (exact rfl); (exact rfl)) | (apply stpN0; (exact rfl)) | apply gT | apply condT | ((first | apply bodyQ_d0 | apply bodyQ_d1 | apply bodyQ_d2 | apply bodyQ_d3 | apply bodyQ_d4); (exact .inr rfl); (rw [Try.results87]))); (first | (focus (simp only [go_sem, ↓reduceIte, simprocAttr, h] <;> rfl)) | exact rfl); (first | (fail_if_success (show okD _ _ _ _ _ _ _ _ _)) | (first | exact okT | exact okN | exact okE rfl)); (first | (fail_if_success (show Bel _ _)) | (focus first | exact .val _ | (simp [oneOf, Bel_iff_tup, Bel_iff_agg, Bel_iff_rsl, Bel_iff_fn, Bel_iff_rptr, Bel_val]; done)))) | refine thenQ_n ?_ | refine thenQ_r ?_ | refine thenQ_e ?_ | refine blockQ_n ?_ | refine blockQ_r ?_ | refine blockQ_e ?_ | (apply blockQ_o; (exact rfl)) | refine Awp.seq ?_ | refine Awp.skip ?_ | refine Awp.block ?_ | refine reg (fun s => false) ?_ | (apply drwE mixed (fun s => false); (kernel_rfl)) | refine fin ?_ | refine Awp.ret ?_ | refine Awp.exit ?_ | ((first | (apply off; (exact rfl)) | apply condF); (first | (focus (simp only [go_sem, ↓reduceIte, simprocAttr, h] <;> rfl)) | exact rfl)))
    all_goals first | rfl | contradiction | (exfalso; omega) | skip

/-- the place in a row by size -/
def cntZ (L : List Ch) (left : Int) : Nat := L.countP fun c => decide (c.size ≤ left)
def SrtZ (L : List Ch) : Prop := L.Pairwise fun a b => a.size ≤ b.size
theorem SrtZ.at {L : List Ch} (h : SrtZ L) {i j : Nat} {a b : Ch} (ha : L[i]? = some a) (hb : L[j]? = some b) (hij : i ≤ j) : a.size ≤ b.size := by
  obtain ⟨h1, e1⟩ := List.getElem?_eq_some_iff.1 ha
  obtain ⟨h2, e2⟩ := List.getElem?_eq_some_iff.1 hb
  rcases Nat.lt_or_eq_of_le hij with k | k
  · have := List.pairwise_iff_getElem.1 h i j h1 h2 k
    rwa [e1, e2] at this
  · subst k; rw [ha] at hb; cases hb; omega
theorem cntZ_at {L : List Ch} {left : Int} {n : Nat} (hn : n ≤ L.length) (h1 : ∀ j c, j < n → L[j]? = some c → c.size ≤ left) (h2 : ∀ j c, n ≤ j → L[j]? = some c → left < c.size) : cntZ L left = n := by
  unfold cntZ
  conv => lhs; rw [← List.take_append_drop n L]
  rw [List.countP_append, List.countP_eq_length.2, List.countP_eq_zero.2]
  · simp; omega
  · intro c hc
    obtain ⟨j, hj⟩ := List.getElem?_of_mem hc
    rw [List.getElem?_drop] at hj
    have := h2 (n + j) c (by omega) hj
    simp; omega
  · intro c hc
    obtain ⟨j, hj⟩ := List.getElem?_of_mem hc
    have hjn : j < n := by have := (List.getElem?_eq_some_iff.1 hj).1; simp at this; omega
    rw [List.getElem?_take_of_lt hjn] at hj
    simpa using h1 j c hjn hj

set_option maxRecDepth 8000 in
theorem place86_ok (H : Hp) (L : List Ch) (ex : Bool) (left : Int) (hs : SrtZ L) (hm : L.length ≤ 4096) : CallsTo Try.prog 86 [.rsl (chs L) ex, iv left, .fn (.func 87) []] H (iv (cntZ L left : Nat)) H := by
  have hvl := chs_len L
  refine ACalls.of_body Try.func86 rfl (by kernel_rfl) (by rw [Try.ntmps86]; simp) ?_; rw [Try.ntmps86]
  repeat' (first | refine spD (fun _ => ?_) (fun _ => ?_) | refine spF (fun _ => ?_) (fun _ => ?_) | (apply gT; (exact rfl)) | (apply off; (exact rfl); (exact rfl)) | (apply condT; (exact rfl)) | (apply condF; (exact rfl)) | ((first | (apply stp0; (exact rfl); (exact rfl)) | (apply stpN0; (exact rfl)) | apply gT | apply condT | ((first | apply bodyQ_d0 | apply bodyQ_d1 | apply bodyQ_d2 | apply bodyQ_d3 | apply bodyQ_d4); (exact .inr rfl); (rw [Try.results86]))); (first | (focus (simp only [go_sem, ↓reduceIte, simprocAttr, hvl] <;> rfl)) | exact rfl); (first | (fail_if_success (show okD _ _ _ _ _ _ _ _ _)) | (first | exact okT | exact okN | exact okE rfl)); (first | (fail_if_success (show Bel _ _)) | (focus first | exact .val _ | (simp [oneOf, Bel_iff_tup, Bel_iff_agg, Bel_iff_rsl, Bel_iff_fn, Bel_iff_rptr, Bel_val]; done)))) | refine thenQ_n ?_ | refine thenQ_r ?_ | refine thenQ_e ?_ | refine blockQ_n ?_ | refine blockQ_r ?_ | refine blockQ_e ?_ | (apply blockQ_o; (exact rfl)) | refine Awp.seq ?_ | refine Awp.skip ?_ | refine Awp.block ?_ | refine reg (fun s => false) ?_ | (apply drwE mixed (fun s => false); (kernel_rfl)) | refine fin ?_ | refine Awp.ret ?_ | refine Awp.exit ?_ | ((first | (apply off; (exact rfl)) | apply condF); (first | (focus (simp only [go_sem, ↓reduceIte, simprocAttr, hvl] <;> rfl)) | exact rfl)))
  all_goals first | contradiction | skip
  refine Awp.loop (ι := Nat × Nat) (fun p T' H' => p.1 ≤ p.2 ∧ p.2 ≤ L.length ∧ T' 7 = iv p.1 ∧ T' 8 = iv p.2 ∧ T' 0 = .rsl (chs L) ex ∧ T' 1 = iv left ∧ T' 2 = .fn (.func 87) [] ∧ H' = H ∧ (∀ j c, j < p.1 → L[j]? = some c → c.size ≤ left) ∧ (∀ j c, p.2 ≤ j → L[j]? = some c → left < c.size)) (fun p => p.2 - p.1) (0, L.length) ?_ ?_
  · exact ⟨Nat.zero_le _, Nat.le_refl _, by (first | (focus (simp only [go_sem, ↓reduceIte, simprocAttr]; first | done | rfl)) | rfl), by (first | (focus (simp only [go_sem, ↓reduceIte, simprocAttr, hvl]; first | done | rfl)) | rfl), by (first | (focus (simp only [go_sem, ↓reduceIte, simprocAttr]; first | done | rfl)) | rfl), by (first | (focus (simp only [go_sem, ↓reduceIte, simprocAttr]; first | done | rfl)) | rfl), by (first | (focus (simp only [go_sem, ↓reduceIte, simprocAttr]; first | done | rfl)) | rfl), rfl, fun j c h => absurd h (by omega), fun j c h e => by rw [List.getElem?_eq_none h] at e; cases e⟩
  rintro ⟨lo, hi⟩ T H' ⟨h1, h2, t7, t8, t0, t1, t2, rfl, a1, a2⟩
  simp only at h1 h2 t7 t8 a1 a2
  by_cases hlt : lo < hi
  · obtain ⟨m, hmd⟩ : ∃ m, m = (lo + hi) / 2 := ⟨_, rfl⟩
    have m1 : lo ≤ m ∧ m < hi := by omega
    obtain ⟨c, hc⟩ := nth (l := L) (i := m) (by omega)
    have hcc := chs_at hc
    have w1 : IntKind.i64.wrap ((lo : Int) + hi) = (lo : Int) + hi := w64 (by omega) (by omega)
    have w2 : ((lo : Int) + hi).tdiv 2 = (m : Int) := by rw [Int.tdiv_eq_ediv_of_nonneg (by omega)]; omega
    have w3 : IntKind.i64.wrap ((m : Int)) = (m : Int) := w64 (by omega) (by omega)
    have w4 : IntKind.i64.wrap ((m : Int) + 1) = ((m + 1 : Nat) : Int) := by rw [w64 (by omega) (by omega)]; omega
    have hq := small87_ok H' c left
    by_cases hcz : c.size ≤ left
    · rw [if_pos hcz] at hq
      repeat' (first | refine spD (fun _ => ?_) (fun _ => ?_) | refine spF (fun _ => ?_) (fun _ => ?_) | (apply gT; (exact rfl)) | (apply off; (exact rfl); (exact rfl)) | (apply condT; (exact rfl)) | (apply condF; (exact rfl)) | ((first | (apply stp0; (exact rfl); (exact rfl)) | (apply stpN0; (exact rfl)) | apply gT | apply condT | ((first | apply bodyQ_d0 | apply bodyQ_d1 | apply bodyQ_d2 | apply bodyQ_d3 | apply bodyQ_d4); (exact .inr rfl); (rw [Try.results86]))); (first | (focus (simp only [go_sem, ↓reduceIte, simprocAttr, Int.ofNat_lt.2 hlt, t7, t8, t0, t1, t2, hcc, w1, w2, w3, w4] <;> rfl)) | exact rfl); (first | (fail_if_success (show okD _ _ _ _ _ _ _ _ _)) | (first | exact okT | exact okN | exact okE rfl)); (first | (fail_if_success (show Bel _ _)) | (focus first | exact .val _ | (simp [oneOf, Bel_iff_tup, Bel_iff_agg, Bel_iff_rsl, Bel_iff_fn, Bel_iff_rptr, Bel_val]; done)))) | (apply calTo0; (exact rfl); (iterate 2 (simp only [go_sem, ↓reduceIte, simprocAttr, Int.ofNat_lt.2 hlt, t7, t8, t0, t1, t2, hcc, w1, w2, w3, w4]; rfl)); (first | exact hq); (first | exact okT | exact okN | exact okE rfl)) | refine thenQ_n ?_ | refine thenQ_r ?_ | refine thenQ_e ?_ | refine blockQ_n ?_ | refine blockQ_r ?_ | refine blockQ_e ?_ | (apply blockQ_o; (exact rfl)) | refine Awp.seq ?_ | refine Awp.skip ?_ | refine Awp.block ?_ | refine reg (fun s => false) ?_ | (apply drwE mixed (fun s => false); (kernel_rfl)) | refine fin ?_ | refine Awp.ret ?_ | refine Awp.exit ?_ | ((first | (apply off; (exact rfl)) | apply condF); (first | (focus (simp only [go_sem, ↓reduceIte, simprocAttr, Int.ofNat_lt.2 hlt, t7, t8, t0, t1, t2, hcc, w1, w2, w3, w4] <;> rfl)) | exact rfl)))
      all_goals first | contradiction | skip
      exact ⟨(m + 1, hi), ⟨by simp only; omega, h2, by (first | (focus (simp only [go_sem, ↓reduceIte, simprocAttr, w4]; first | done | rfl)) | rfl), by (first | (focus (simp only [go_sem, ↓reduceIte, simprocAttr, t8]; first | done | rfl)) | rfl), by (first | (focus (simp only [go_sem, ↓reduceIte, simprocAttr, t0]; first | done | rfl)) | rfl), by (first | (focus (simp only [go_sem, ↓reduceIte, simprocAttr, t1]; first | done | rfl)) | rfl), by (first | (focus (simp only [go_sem, ↓reduceIte, simprocAttr, t2]; first | done | rfl)) | rfl), rfl, fun j d hj hd => Int.le_trans (hs.at hd hc (by simp only at hj; omega)) hcz, a2⟩, by simp only; omega⟩
    · rw [if_neg hcz] at hq
      repeat' (first | refine spD (fun _ => ?_) (fun _ => ?_) | refine spF (fun _ => ?_) (fun _ => ?_) | (apply gT; (exact rfl)) | (apply off; (exact rfl); (exact rfl)) | (apply condT; (exact rfl)) | (apply condF; (exact rfl)) | ((first | (apply stp0; (exact rfl); (exact rfl)) | (apply stpN0; (exact rfl)) | apply gT | apply condT | ((first | apply bodyQ_d0 | apply bodyQ_d1 | apply bodyQ_d2 | apply bodyQ_d3 | apply bodyQ_d4); (exact .inr rfl); (rw [Try.results86]))); (first | (focus (simp only [go_sem, ↓reduceIte, simprocAttr, Int.ofNat_lt.2 hlt, t7, t8, t0, t1, t2, hcc, w1, w2, w3, w4] <;> rfl)) | exact rfl); (first | (fail_if_success (show okD _ _ _ _ _ _ _ _ _)) | (first | exact okT | exact okN | exact okE rfl)); (first | (fail_if_success (show Bel _ _)) | (focus first | exact .val _ | (simp [oneOf, Bel_iff_tup, Bel_iff_agg, Bel_iff_rsl, Bel_iff_fn, Bel_iff_rptr, Bel_val]; done)))) | (apply calTo0; (exact rfl); (iterate 2 (simp only [go_sem, ↓reduceIte, simprocAttr, Int.ofNat_lt.2 hlt, t7, t8, t0, t1, t2, hcc, w1, w2, w3, w4]; rfl)); (first | exact hq); (first | exact okT | exact okN | exact okE rfl)) | refine thenQ_n ?_ | refine thenQ_r ?_ | refine thenQ_e ?_ | refine blockQ_n ?_ | refine blockQ_r ?_ | refine blockQ_e ?_ | (apply blockQ_o; (exact rfl)) | refine Awp.seq ?_ | refine Awp.skip ?_ | refine Awp.block ?_ | refine reg (fun s => false) ?_ | (apply drwE mixed (fun s => false); (kernel_rfl)) | refine fin ?_ | refine Awp.ret ?_ | refine Awp.exit ?_ | ((first | (apply off; (exact rfl)) | apply condF); (first | (focus (simp only [go_sem, ↓reduceIte, simprocAttr, Int.ofNat_lt.2 hlt, t7, t8, t0, t1, t2, hcc, w1, w2, w3, w4] <;> rfl)) | exact rfl)))
      all_goals first | contradiction | skip
      exact ⟨(lo, m), ⟨m1.1, by simp only; omega, by (first | (focus (simp only [go_sem, ↓reduceIte, simprocAttr, t7]; first | done | rfl)) | rfl), by (first | (focus (simp only [go_sem, ↓reduceIte, simprocAttr]; first | done | rfl)) | rfl), by (first | (focus (simp only [go_sem, ↓reduceIte, simprocAttr, t0]; first | done | rfl)) | rfl), by (first | (focus (simp only [go_sem, ↓reduceIte, simprocAttr, t1]; first | done | rfl)) | rfl), by (first | (focus (simp only [go_sem, ↓reduceIte, simprocAttr, t2]; first | done | rfl)) | rfl), rfl, a1, fun j d hj hd => Int.lt_of_lt_of_le (Int.not_le.1 hcz) (hs.at hc hd hj)⟩, by simp only; omega⟩
  · have e : lo = hi := by omega
    subst e
    rw [cntZ_at h2 a1 a2]
    repeat' (first | refine spD (fun _ => ?_) (fun _ => ?_) | refine spF (fun _ => ?_) (fun _ => ?_) | (apply gT; (exact rfl)) | (apply off; (exact rfl); (exact rfl)) | (apply condT; (exact rfl)) | (apply condF; (exact rfl)) | ((first | (apply stp0; (exact rfl); (exact rfl)) | (apply stpN0; (exact rfl)) | apply gT | apply condT | ((first | apply bodyQ_d0 | apply bodyQ_d1 | apply bodyQ_d2 | apply bodyQ_d3 | apply bodyQ_d4); (exact .inr rfl); (rw [Try.results86]))); (first | (focus (simp only [go_sem, ↓reduceIte, simprocAttr, Int.lt_irrefl, t7, t8, t0, t1, t2] <;> rfl)) | exact rfl); (first | (fail_if_success (show okD _ _ _ _ _ _ _ _ _)) | (first | exact okT | exact okN | exact okE rfl)); (first | (fail_if_success (show Bel _ _)) | (focus first | exact .val _ | (simp [oneOf, Bel_iff_tup, Bel_iff_agg, Bel_iff_rsl, Bel_iff_fn, Bel_iff_rptr, Bel_val]; done)))) | refine thenQ_n ?_ | refine thenQ_r ?_ | refine thenQ_e ?_ | refine blockQ_n ?_ | refine blockQ_r ?_ | refine blockQ_e ?_ | (apply blockQ_o; (exact rfl)) | refine Awp.seq ?_ | refine Awp.skip ?_ | refine Awp.block ?_ | refine reg (fun s => false) ?_ | (apply drwE mixed (fun s => false); (kernel_rfl)) | refine fin ?_ | refine Awp.ret ?_ | refine Awp.exit ?_ | ((first | (apply off; (exact rfl)) | apply condF); (first | (focus (simp only [go_sem, ↓reduceIte, simprocAttr, Int.lt_irrefl, t7, t8, t0, t1, t2] <;> rfl)) | exact rfl)))
    all_goals first | rfl | contradiction | (exfalso; omega) | skip

end Go.Proofs.Ytlhchnnfgppneaa.Ab
