/- Buffers: the law BufferOrder. -/
import Derived.Test.YtlhchnnfgppneaaJ0
import Derived.Test.YtlhchnnfgppneaaR1
namespace Go.Proofs.Ytlhchnnfgppneaa.Ab
open Go Go.RowKit Go.Proofs
set_option linter.unusedSimpArgs false
set_option linter.unusedVariables false
attribute [local irreducible] Awp wpO thenQ blockQ bodyQ ACalls stepA

theorem lesserOk (H : Hp) {a b : Item} (ha : a.ok) (hb : b.ok) : CallsTo Try.prog 21 [.agg a.cs, .agg b.cs] H (bv (decide (lessR a b))) H := by
  have := lesser_ok H a b
  rwa [show decide ((a.ok ∧ b.ok) ∧ lessR a b) = decide (lessR a b) by simp [ha, hb]] at this

set_option maxRecDepth 8000 in
set_option maxHeartbeats 4000000 in
theorem BufferOrder_ok (H : Hp) (a b c : Item) : CallsTo Try.prog 4 [.agg a.cs, .agg b.cs, .agg c.cs] H (bv true) H := by
  have hc := rcheck_ok
  by_cases hk : a.ok ∧ b.ok ∧ c.ok
  · obtain ⟨ha, hb, hcc⟩ := hk
    have e1 : a.code = 0 := if_pos ha
    have e2 : b.code = 0 := if_pos hb
    have e3 : c.code = 0 := if_pos hcc
    refine ACalls.of_body Try.func4 rfl (by kernel_rfl) (by rw [Try.ntmps4]; simp) ?_; rw [Try.ntmps4]
    repeat' (first | refine spD (fun _ => ?_) (fun _ => ?_) | refine spF (fun _ => ?_) (fun _ => ?_) | ((first | (apply stp0; (exact rfl); (exact rfl)) | (apply stpN0; (exact rfl))); (simp only [go_sem, ↓reduceIte, Nat.reduceEqDiff, Nat.reduceBEq, Nat.reduceAdd, Nat.reduceLeDiff, Nat.reduceMul, Nat.reduceLT, Int.reduceToNat, reduceCtorEq, Int.reduceBEq, Int.reduceBNe, Int.reduceLT, Int.reduceLE, Int.reduceGT, Int.reduceGE, Item.cs, e1, e2, e3]; rfl); (first | exact okT | exact okN | exact okE rfl)) | (apply gT; (exact rfl)) | (apply off; (exact rfl); (exact rfl)) | (apply calTo0; (exact rfl); (iterate 2 (simp only [go_sem, ↓reduceIte, Nat.reduceEqDiff, Nat.reduceBEq, Nat.reduceAdd, Nat.reduceLeDiff, Nat.reduceMul, Nat.reduceLT, Int.reduceToNat, reduceCtorEq, Int.reduceBEq, Int.reduceBNe, Int.reduceLT, Int.reduceLE, Int.reduceGT, Int.reduceGE, Item.cs, e1, e2, e3]; rfl)); (first | exact hc _ a | exact hc _ b | exact hc _ c | exact lesserOk _ ha hb | exact lesserOk _ hb ha | exact lesserOk _ ha ha | exact lesserOk _ hb hcc | exact lesserOk _ ha hcc | exact fine_ok _); (first | exact okT | exact okN | exact okE rfl)) | refine thenQ_n ?_ | refine thenQ_r ?_ | refine thenQ_e ?_ | refine blockQ_n ?_ | refine blockQ_r ?_ | refine blockQ_e ?_ | (apply blockQ_o; (exact rfl)) | refine Awp.seq ?_ | refine Awp.skip ?_ | refine Awp.block ?_ | refine reg (fun s => false) ?_ | (apply drwE mixed (fun s => false); (kernel_rfl)) | refine fin ?_ | (apply condT; (exact rfl)) | (apply condF; (exact rfl)) | refine Awp.ret ?_ | refine Awp.exit ?_ | ((first | apply bodyQ_d0 | apply bodyQ_d1 | apply bodyQ_d2 | apply bodyQ_d3 | apply bodyQ_d4); (exact .inr rfl); (rw [Try.results4]; simp only [go_sem, ↓reduceIte, Nat.reduceEqDiff, Nat.reduceBEq, Nat.reduceAdd, Nat.reduceLeDiff, Nat.reduceMul, Nat.reduceLT, Int.reduceToNat, reduceCtorEq, Int.reduceBEq, Int.reduceBNe, Int.reduceLT, Int.reduceLE, Int.reduceGT, Int.reduceGE, Item.cs, e1, e2, e3]; rfl); (first | (show Bel _ _; (focus first | exact .val _ | (simp [oneOf, Bel_iff_tup, Bel_iff_agg, Bel_iff_rsl, Bel_val]; done))) | (fail_if_success (show Bel _ _)))) | ((first | apply gT | apply condT); (focus (simp only [go_sem, ↓reduceIte, Nat.reduceEqDiff, Nat.reduceBEq, Nat.reduceAdd, Nat.reduceLeDiff, Nat.reduceMul, Nat.reduceLT, Int.reduceToNat, reduceCtorEq, Int.reduceBEq, Int.reduceBNe, Int.reduceLT, Int.reduceLE, Int.reduceGT, Int.reduceGE, Item.cs, e1, e2, e3] <;> rfl))) | ((first | (apply off; (exact rfl)) | apply condF); (focus (simp only [go_sem, ↓reduceIte, Nat.reduceEqDiff, Nat.reduceBEq, Nat.reduceAdd, Nat.reduceLeDiff, Nat.reduceMul, Nat.reduceLT, Int.reduceToNat, reduceCtorEq, Int.reduceBEq, Int.reduceBNe, Int.reduceLT, Int.reduceLE, Int.reduceGT, Int.reduceGE, Item.cs, e1, e2, e3] <;> rfl))))
    all_goals first | rfl | contradiction | (exfalso; omega) | (exfalso; unfold lessR at *; omega) | (exfalso; rename_i h; exact h rfl)
  · have hL := Less_ok H a b
    by_cases hab : a.ok ∧ b.ok
    · obtain ⟨ha, hb⟩ := hab
      have hcc : ¬ c.ok := fun h => hk ⟨ha, hb, h⟩
      have e1 : a.code = 0 := if_pos ha
      have e2 : b.code = 0 := if_pos hb
      have e3 : c.code = 2 := if_neg hcc
      rw [show lessE a b = (decide (lessR a b), 0) by unfold lessE; rw [if_pos ⟨ha, hb⟩]] at hL
      refine ACalls.of_body Try.func4 rfl (by kernel_rfl) (by rw [Try.ntmps4]; simp) ?_; rw [Try.ntmps4]
      repeat' (first | refine spD (fun _ => ?_) (fun _ => ?_) | refine spF (fun _ => ?_) (fun _ => ?_) | ((first | (apply stp0; (exact rfl); (exact rfl)) | (apply stpN0; (exact rfl))); (simp only [go_sem, ↓reduceIte, Nat.reduceEqDiff, Nat.reduceBEq, Nat.reduceAdd, Nat.reduceLeDiff, Nat.reduceMul, Nat.reduceLT, Int.reduceToNat, reduceCtorEq, Int.reduceBEq, Int.reduceBNe, Int.reduceLT, Int.reduceLE, Int.reduceGT, Int.reduceGE, Item.cs, e1, e2, e3, bi]; rfl); (first | exact okT | exact okN | exact okE rfl)) | (apply gT; (exact rfl)) | (apply off; (exact rfl); (exact rfl)) | (apply calTo0; (exact rfl); (iterate 2 (simp only [go_sem, ↓reduceIte, Nat.reduceEqDiff, Nat.reduceBEq, Nat.reduceAdd, Nat.reduceLeDiff, Nat.reduceMul, Nat.reduceLT, Int.reduceToNat, reduceCtorEq, Int.reduceBEq, Int.reduceBNe, Int.reduceLT, Int.reduceLE, Int.reduceGT, Int.reduceGE, Item.cs, e1, e2, e3, bi]; rfl)); (first | exact hc _ a | exact hc _ b | exact hc _ c | exact hL | exact fine_ok _); (first | exact okT | exact okN | exact okE rfl)) | refine thenQ_n ?_ | refine thenQ_r ?_ | refine thenQ_e ?_ | refine blockQ_n ?_ | refine blockQ_r ?_ | refine blockQ_e ?_ | (apply blockQ_o; (exact rfl)) | refine Awp.seq ?_ | refine Awp.skip ?_ | refine Awp.block ?_ | refine reg (fun s => false) ?_ | (apply drwE mixed (fun s => false); (kernel_rfl)) | refine fin ?_ | (apply condT; (exact rfl)) | (apply condF; (exact rfl)) | refine Awp.ret ?_ | refine Awp.exit ?_ | ((first | apply bodyQ_d0 | apply bodyQ_d1 | apply bodyQ_d2 | apply bodyQ_d3 | apply bodyQ_d4); (exact .inr rfl); (rw [Try.results4]; simp only [go_sem, ↓reduceIte, Nat.reduceEqDiff, Nat.reduceBEq, Nat.reduceAdd, Nat.reduceLeDiff, Nat.reduceMul, Nat.reduceLT, Int.reduceToNat, reduceCtorEq, Int.reduceBEq, Int.reduceBNe, Int.reduceLT, Int.reduceLE, Int.reduceGT, Int.reduceGE, Item.cs, e1, e2, e3, bi]; rfl); (first | (show Bel _ _; (focus first | exact .val _ | (simp [oneOf, Bel_iff_tup, Bel_iff_agg, Bel_iff_rsl, Bel_val]; done))) | (fail_if_success (show Bel _ _)))) | ((first | apply gT | apply condT); (focus (simp only [go_sem, ↓reduceIte, Nat.reduceEqDiff, Nat.reduceBEq, Nat.reduceAdd, Nat.reduceLeDiff, Nat.reduceMul, Nat.reduceLT, Int.reduceToNat, reduceCtorEq, Int.reduceBEq, Int.reduceBNe, Int.reduceLT, Int.reduceLE, Int.reduceGT, Int.reduceGE, Item.cs, e1, e2, e3, bi] <;> rfl))) | ((first | (apply off; (exact rfl)) | apply condF); (focus (simp only [go_sem, ↓reduceIte, Nat.reduceEqDiff, Nat.reduceBEq, Nat.reduceAdd, Nat.reduceLeDiff, Nat.reduceMul, Nat.reduceLT, Int.reduceToNat, reduceCtorEq, Int.reduceBEq, Int.reduceBNe, Int.reduceLT, Int.reduceLE, Int.reduceGT, Int.reduceGE, Item.cs, e1, e2, e3, bi] <;> rfl))))
      all_goals first | rfl | contradiction | (exfalso; omega) | (exfalso; rename_i h; exact h rfl)
    · rw [show lessE a b = (false, 2) by unfold lessE; rw [if_neg hab]] at hL
      by_cases ha : a.ok
      · have hb : ¬ b.ok := fun h => hab ⟨ha, h⟩
        have e1 : a.code = 0 := if_pos ha
        have e2 : b.code = 2 := if_neg hb
        refine ACalls.of_body Try.func4 rfl (by kernel_rfl) (by rw [Try.ntmps4]; simp) ?_; rw [Try.ntmps4]
        repeat' (first | refine spD (fun _ => ?_) (fun _ => ?_) | refine spF (fun _ => ?_) (fun _ => ?_) | ((first | (apply stp0; (exact rfl); (exact rfl)) | (apply stpN0; (exact rfl))); (simp only [go_sem, ↓reduceIte, Nat.reduceEqDiff, Nat.reduceBEq, Nat.reduceAdd, Nat.reduceLeDiff, Nat.reduceMul, Nat.reduceLT, Int.reduceToNat, reduceCtorEq, Int.reduceBEq, Int.reduceBNe, Int.reduceLT, Int.reduceLE, Int.reduceGT, Int.reduceGE, Item.cs, e1, e2, bi]; rfl); (first | exact okT | exact okN | exact okE rfl)) | (apply gT; (exact rfl)) | (apply off; (exact rfl); (exact rfl)) | (apply calTo0; (exact rfl); (iterate 2 (simp only [go_sem, ↓reduceIte, Nat.reduceEqDiff, Nat.reduceBEq, Nat.reduceAdd, Nat.reduceLeDiff, Nat.reduceMul, Nat.reduceLT, Int.reduceToNat, reduceCtorEq, Int.reduceBEq, Int.reduceBNe, Int.reduceLT, Int.reduceLE, Int.reduceGT, Int.reduceGE, Item.cs, e1, e2, bi]; rfl)); (first | exact hc _ a | exact hc _ b | exact hc _ c | exact hL | exact fine_ok _); (first | exact okT | exact okN | exact okE rfl)) | refine thenQ_n ?_ | refine thenQ_r ?_ | refine thenQ_e ?_ | refine blockQ_n ?_ | refine blockQ_r ?_ | refine blockQ_e ?_ | (apply blockQ_o; (exact rfl)) | refine Awp.seq ?_ | refine Awp.skip ?_ | refine Awp.block ?_ | refine reg (fun s => false) ?_ | (apply drwE mixed (fun s => false); (kernel_rfl)) | refine fin ?_ | (apply condT; (exact rfl)) | (apply condF; (exact rfl)) | refine Awp.ret ?_ | refine Awp.exit ?_ | ((first | apply bodyQ_d0 | apply bodyQ_d1 | apply bodyQ_d2 | apply bodyQ_d3 | apply bodyQ_d4); (exact .inr rfl); (rw [Try.results4]; simp only [go_sem, ↓reduceIte, Nat.reduceEqDiff, Nat.reduceBEq, Nat.reduceAdd, Nat.reduceLeDiff, Nat.reduceMul, Nat.reduceLT, Int.reduceToNat, reduceCtorEq, Int.reduceBEq, Int.reduceBNe, Int.reduceLT, Int.reduceLE, Int.reduceGT, Int.reduceGE, Item.cs, e1, e2, bi]; rfl); (first | (show Bel _ _; (focus first | exact .val _ | (simp [oneOf, Bel_iff_tup, Bel_iff_agg, Bel_iff_rsl, Bel_val]; done))) | (fail_if_success (show Bel _ _)))) | ((first | apply gT | apply condT); (focus (simp only [go_sem, ↓reduceIte, Nat.reduceEqDiff, Nat.reduceBEq, Nat.reduceAdd, Nat.reduceLeDiff, Nat.reduceMul, Nat.reduceLT, Int.reduceToNat, reduceCtorEq, Int.reduceBEq, Int.reduceBNe, Int.reduceLT, Int.reduceLE, Int.reduceGT, Int.reduceGE, Item.cs, e1, e2, bi] <;> rfl))) | ((first | (apply off; (exact rfl)) | apply condF); (focus (simp only [go_sem, ↓reduceIte, Nat.reduceEqDiff, Nat.reduceBEq, Nat.reduceAdd, Nat.reduceLeDiff, Nat.reduceMul, Nat.reduceLT, Int.reduceToNat, reduceCtorEq, Int.reduceBEq, Int.reduceBNe, Int.reduceLT, Int.reduceLE, Int.reduceGT, Int.reduceGE, Item.cs, e1, e2, bi] <;> rfl))))
        all_goals first | rfl | contradiction | (exfalso; omega) | (exfalso; rename_i h; exact h rfl)
      · have e1 : a.code = 2 := if_neg ha
        refine ACalls.of_body Try.func4 rfl (by kernel_rfl) (by rw [Try.ntmps4]; simp) ?_; rw [Try.ntmps4]
        repeat' (first | refine spD (fun _ => ?_) (fun _ => ?_) | refine spF (fun _ => ?_) (fun _ => ?_) | ((first | (apply stp0; (exact rfl); (exact rfl)) | (apply stpN0; (exact rfl))); (simp only [go_sem, ↓reduceIte, Nat.reduceEqDiff, Nat.reduceBEq, Nat.reduceAdd, Nat.reduceLeDiff, Nat.reduceMul, Nat.reduceLT, Int.reduceToNat, reduceCtorEq, Int.reduceBEq, Int.reduceBNe, Int.reduceLT, Int.reduceLE, Int.reduceGT, Int.reduceGE, Item.cs, e1, bi]; rfl); (first | exact okT | exact okN | exact okE rfl)) | (apply gT; (exact rfl)) | (apply off; (exact rfl); (exact rfl)) | (apply calTo0; (exact rfl); (iterate 2 (simp only [go_sem, ↓reduceIte, Nat.reduceEqDiff, Nat.reduceBEq, Nat.reduceAdd, Nat.reduceLeDiff, Nat.reduceMul, Nat.reduceLT, Int.reduceToNat, reduceCtorEq, Int.reduceBEq, Int.reduceBNe, Int.reduceLT, Int.reduceLE, Int.reduceGT, Int.reduceGE, Item.cs, e1, bi]; rfl)); (first | exact hc _ a | exact hc _ b | exact hc _ c | exact hL | exact fine_ok _); (first | exact okT | exact okN | exact okE rfl)) | refine thenQ_n ?_ | refine thenQ_r ?_ | refine thenQ_e ?_ | refine blockQ_n ?_ | refine blockQ_r ?_ | refine blockQ_e ?_ | (apply blockQ_o; (exact rfl)) | refine Awp.seq ?_ | refine Awp.skip ?_ | refine Awp.block ?_ | refine reg (fun s => false) ?_ | (apply drwE mixed (fun s => false); (kernel_rfl)) | refine fin ?_ | (apply condT; (exact rfl)) | (apply condF; (exact rfl)) | refine Awp.ret ?_ | refine Awp.exit ?_ | ((first | apply bodyQ_d0 | apply bodyQ_d1 | apply bodyQ_d2 | apply bodyQ_d3 | apply bodyQ_d4); (exact .inr rfl); (rw [Try.results4]; simp only [go_sem, ↓reduceIte, Nat.reduceEqDiff, Nat.reduceBEq, Nat.reduceAdd, Nat.reduceLeDiff, Nat.reduceMul, Nat.reduceLT, Int.reduceToNat, reduceCtorEq, Int.reduceBEq, Int.reduceBNe, Int.reduceLT, Int.reduceLE, Int.reduceGT, Int.reduceGE, Item.cs, e1, bi]; rfl); (first | (show Bel _ _; (focus first | exact .val _ | (simp [oneOf, Bel_iff_tup, Bel_iff_agg, Bel_iff_rsl, Bel_val]; done))) | (fail_if_success (show Bel _ _)))) | ((first | apply gT | apply condT); (focus (simp only [go_sem, ↓reduceIte, Nat.reduceEqDiff, Nat.reduceBEq, Nat.reduceAdd, Nat.reduceLeDiff, Nat.reduceMul, Nat.reduceLT, Int.reduceToNat, reduceCtorEq, Int.reduceBEq, Int.reduceBNe, Int.reduceLT, Int.reduceLE, Int.reduceGT, Int.reduceGE, Item.cs, e1, bi] <;> rfl))) | ((first | (apply off; (exact rfl)) | apply condF); (focus (simp only [go_sem, ↓reduceIte, Nat.reduceEqDiff, Nat.reduceBEq, Nat.reduceAdd, Nat.reduceLeDiff, Nat.reduceMul, Nat.reduceLT, Int.reduceToNat, reduceCtorEq, Int.reduceBEq, Int.reduceBNe, Int.reduceLT, Int.reduceLE, Int.reduceGT, Int.reduceGE, Item.cs, e1, bi] <;> rfl))))
        all_goals first | rfl | contradiction | (exfalso; omega) | (exfalso; rename_i h; exact h rfl)


theorem itemFit (x : List AV) (h : Fits [I, I, I, I, I] x) : ∃ r : Item, x = r.cs := by
  obtain ⟨a, _, rfl, _, h⟩ := fitK h
  obtain ⟨b, _, rfl, _, h⟩ := fitK h
  obtain ⟨c, _, rfl, _, h⟩ := fitK h
  obtain ⟨d, _, rfl, _, h⟩ := fitK h
  obtain ⟨e, _, rfl, _, h⟩ := fitK h
  obtain rfl := fit0 h
  exact ⟨⟨a, b, c, d, e⟩, rfl⟩
def itemS : Bool × List Sh := (true, [I, I, I, I, I])
theorem itemArg {r : List (Bool × List Sh)} {xs : List AV} (h : ArgsFit (itemS :: r) xs) : ∃ (x : Item) (l : List AV), xs = .agg x.cs :: l ∧ ArgsFit r l := by
  obtain ⟨bs, l, rfl, h1, h2⟩ := argT h
  obtain ⟨x, rfl⟩ := itemFit bs h1
  exact ⟨x, l, rfl, h2⟩

def sh4 : List (Bool × List Sh) := [itemS, itemS, itemS]
theorem law4 : ∀ xs, ArgsFit sh4 xs → ACalls Try.prog 4 xs [] fun v _ => v = .val (.bool true) := by
  intro xs h0
  obtain ⟨a, _, rfl, h1⟩ := itemArg h0
  obtain ⟨b, _, rfl, h2⟩ := itemArg h1
  obtain ⟨c, _, rfl, h3⟩ := itemArg h2
  obtain rfl := arg0 h3
  exact (BufferOrder_ok [] a b c).mono fun v H' h => h.1

end Go.Proofs.Ytlhchnnfgppneaa.Ab
