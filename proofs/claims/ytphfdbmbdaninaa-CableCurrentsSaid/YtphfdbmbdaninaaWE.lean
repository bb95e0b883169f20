/- Cables: the law CableCurrents. -/
import Derived.Test.YtphfdbmbdaninaaWD
import Derived.Test.YtphfdbmbdaninaaR1
namespace Go.Proofs.Ytphfdbmbdaninaa.Ab
open Go Go.RowKit Go.Proofs
set_option linter.unusedSimpArgs false
set_option linter.unusedVariables false
attribute [local irreducible] Awp wpO thenQ blockQ bodyQ ACalls stepA

theorem ndFit (x : List AV) (h : Fits [I, I, I, I, I, I, I, I] x) : ∃ n : Nd, x = n.cs := by
  obtain ⟨a, _, rfl, _, h⟩ := fitK h
  obtain ⟨b, _, rfl, _, h⟩ := fitK h
  obtain ⟨c, _, rfl, _, h⟩ := fitK h
  obtain ⟨d, _, rfl, _, h⟩ := fitK h
  obtain ⟨e, _, rfl, _, h⟩ := fitK h
  obtain ⟨f, _, rfl, _, h⟩ := fitK h
  obtain ⟨g, _, rfl, _, h⟩ := fitK h
  obtain ⟨k, _, rfl, _, h⟩ := fitK h
  obtain rfl := fit0 h
  exact ⟨⟨a, b, c, d, e, f, g, k⟩, rfl⟩

def cbS : Bool × List Sh := (true, [I, I, .sl 64 [I, I, I, I, I, I, I, I]])
theorem cbArg {r : List (Bool × List Sh)} {xs : List AV} (h : ArgsFit (cbS :: r) xs) : ∃ (c : Cb) (l : List AV), xs = .agg c.cs :: l ∧ ArgsFit r l := by
  obtain ⟨bs, l, rfl, h1, h2⟩ := argT h
  obtain ⟨a, _, rfl, _, h1⟩ := fitK h1
  obtain ⟨b, _, rfl, _, h1⟩ := fitK h1
  obtain ⟨es, ex, bs, rfl, h3, _, _, h4⟩ := fitL h1
  obtain ⟨s, rfl⟩ := fitMap Nd.cs ndFit es h3
  obtain rfl := fit0 h4
  exact ⟨⟨⟨a, b⟩, s, ex⟩, l, rfl, h2⟩

theorem ifOk_map {α β : Type} (c : Cb) (f : α → β) (v : List α) : ifOk c (v.map f) = (ifOk c v).map f := by unfold ifOk; split <;> rfl
theorem ifOk_len {α : Type} {c : Cb} (hL : ¬ c.long) {v : List α} (h : v.length = c.l.length) : (ifOk c v).length ≤ maxLen := by
  unfold ifOk
  split
  · rename_i hc
    have := (good_of hL hc).h.2.1
    simp only [maxLen]; omega
  · simp

theorem CableCurrents_ok (c : Cb) : CallsTo Try.prog 8 [.agg c.cs] [] (bv true) [] := by
  have hf := fine_ok
  have hl := fun H => long_ok H c
  by_cases hL : c.long
  · rw [decide_eq_true hL] at hl
    refine ACalls.of_body Try.func8 rfl (by kernel_rfl) (by rw [Try.ntmps8]; simp) ?_; rw [Try.ntmps8]
    repeat' (first | refine spD (fun _ => ?_) (fun _ => ?_) | refine spF (fun _ => ?_) (fun _ => ?_) | ((first | (apply stp0; (exact rfl); (exact rfl)) | (apply stpN0; (exact rfl))); (simp only [go_sem, ↓reduceIte, Nat.reduceEqDiff, Nat.reduceBEq, Nat.reduceAdd, Nat.reduceLeDiff, Nat.reduceMul, Nat.reduceLT, Int.reduceToNat, reduceCtorEq, Int.reduceBEq, Int.reduceBNe, Int.reduceLT, Int.reduceLE, Int.reduceGT, Int.reduceGE, Cb.cs]; rfl); (first | exact okT | exact okN | exact okE rfl)) | (apply gT; (exact rfl)) | (apply off; (exact rfl); (exact rfl)) | (apply calTo0; (exact rfl); (iterate 2 (simp only [go_sem, ↓reduceIte, Nat.reduceEqDiff, Nat.reduceBEq, Nat.reduceAdd, Nat.reduceLeDiff, Nat.reduceMul, Nat.reduceLT, Int.reduceToNat, reduceCtorEq, Int.reduceBEq, Int.reduceBNe, Int.reduceLT, Int.reduceLE, Int.reduceGT, Int.reduceGE, Cb.cs]; rfl)); (first | exact hl _ | exact hf _); (first | exact okT | exact okN | exact okE rfl)) | refine thenQ_n ?_ | refine thenQ_r ?_ | refine thenQ_e ?_ | refine blockQ_n ?_ | refine blockQ_r ?_ | refine blockQ_e ?_ | (apply blockQ_o; (exact rfl)) | refine Awp.seq ?_ | refine Awp.skip ?_ | refine Awp.block ?_ | refine reg (fun s => false) ?_ | (apply drwE mixed (fun s => false); (kernel_rfl)) | refine fin ?_ | (apply condT; (exact rfl)) | (apply condF; (exact rfl)) | refine Awp.ret ?_ | refine Awp.exit ?_ | ((first | apply bodyQ_d0 | apply bodyQ_d1 | apply bodyQ_d2 | apply bodyQ_d3 | apply bodyQ_d4); (exact .inr rfl); (rw [Try.results8]; simp only [go_sem, ↓reduceIte, Nat.reduceEqDiff, Nat.reduceBEq, Nat.reduceAdd, Nat.reduceLeDiff, Nat.reduceMul, Nat.reduceLT, Int.reduceToNat, reduceCtorEq, Int.reduceBEq, Int.reduceBNe, Int.reduceLT, Int.reduceLE, Int.reduceGT, Int.reduceGE, Cb.cs]; rfl); (first | (show Bel _ _; (focus first | exact .val _ | (simp [oneOf, Bel_iff_tup, Bel_iff_agg, Bel_iff_rsl, Bel_iff_fn, Bel_iff_rptr, Bel_val]; done))) | (fail_if_success (show Bel _ _)))) | ((first | apply gT | apply condT); (first | (focus (simp only [go_sem, ↓reduceIte, Nat.reduceEqDiff, Nat.reduceBEq, Nat.reduceAdd, Nat.reduceLeDiff, Nat.reduceMul, Nat.reduceLT, Int.reduceToNat, reduceCtorEq, Int.reduceBEq, Int.reduceBNe, Int.reduceLT, Int.reduceLE, Int.reduceGT, Int.reduceGE, Cb.cs] <;> rfl)) | exact rfl)) | ((first | (apply off; (exact rfl)) | apply condF); (first | (focus (simp only [go_sem, ↓reduceIte, Nat.reduceEqDiff, Nat.reduceBEq, Nat.reduceAdd, Nat.reduceLeDiff, Nat.reduceMul, Nat.reduceLT, Int.reduceToNat, reduceCtorEq, Int.reduceBEq, Int.reduceBNe, Int.reduceLT, Int.reduceLE, Int.reduceGT, Int.reduceGE, Cb.cs] <;> rfl)) | exact rfl)))
    all_goals rfl
  · rw [decide_eq_false hL] at hl
    have k1 := fun H => Currents_ok H c hL
    have k2 := fun H => rCurrents_ok H c hL
    have k3 := fun H => Voltages_ok H c hL
    have k4 := fun H => rVoltages_ok H c hL
    have k5 := fun H => Within_ok H c hL
    have k6 := fun H => rWithin_ok H c hL
    have k7 := fun H => Fed_ok H c hL
    have k8 := fun H => rFed_ok H c hL
    have e1 : ifOk c ((curs c.l).map Sp.cs) = (ifOk c (curs c.l)).map Sp.cs := ifOk_map _ _ _
    have e2 : ifOk c ((vols c).map Sp.cs) = (ifOk c (vols c)).map Sp.cs := ifOk_map _ _ _
    have e3 : ifOk c (rowL (ansW c.l) c.l.length) = ints (ifOk c ((List.range c.l.length).map (ansW c.l))) := ifOk_map _ _ _
    have e4 : ifOk c (rowL (ansF c) c.l.length) = ints (ifOk c ((List.range c.l.length).map (ansF c))) := ifOk_map _ _ _
    rw [e1] at k1 k2
    rw [e2] at k3 k4
    rw [e3] at k5 k6
    rw [e4] at k7 k8
    have l1 := ifOk_len hL (v := curs c.l) (by simp [curs])
    have l2 := ifOk_len hL (v := vols c) (by simp [vols])
    have l3 := ifOk_len hL (v := (List.range c.l.length).map (ansW c.l)) (by simp)
    have l4 := ifOk_len hL (v := (List.range c.l.length).map (ansF c)) (by simp)
    refine ACalls.of_body Try.func8 rfl (by kernel_rfl) (by rw [Try.ntmps8]; simp) ?_; rw [Try.ntmps8]
    repeat' (first | refine spD (fun _ => ?_) (fun _ => ?_) | refine spF (fun _ => ?_) (fun _ => ?_) | ((first | (apply stp0; (exact rfl); (exact rfl)) | (apply stpN0; (exact rfl))); (simp only [go_sem, ↓reduceIte, Nat.reduceEqDiff, Nat.reduceBEq, Nat.reduceAdd, Nat.reduceLeDiff, Nat.reduceMul, Nat.reduceLT, Int.reduceToNat, reduceCtorEq, Int.reduceBEq, Int.reduceBNe, Int.reduceLT, Int.reduceLE, Int.reduceGT, Int.reduceGE, Cb.cs, rowE]; rfl); (first | exact okT | exact okN | exact okE rfl)) | (apply gT; (exact rfl)) | (apply off; (exact rfl); (exact rfl)) | (apply calTo0; (exact rfl); (iterate 2 (simp only [go_sem, ↓reduceIte, Nat.reduceEqDiff, Nat.reduceBEq, Nat.reduceAdd, Nat.reduceLeDiff, Nat.reduceMul, Nat.reduceLT, Int.reduceToNat, reduceCtorEq, Int.reduceBEq, Int.reduceBNe, Int.reduceLT, Int.reduceLE, Int.reduceGT, Int.reduceGE, Cb.cs, rowE]; rfl)); (first | exact hl _ | exact hf _ | exact k1 _ | exact k2 _ | exact k3 _ | exact k4 _ | exact k5 _ | exact k6 _ | exact k7 _ | exact k8 _ | exact spans_ok _ _ _ _ l1 | exact spans_ok _ _ _ _ l2 | exact answers_ok _ _ _ _ l3 | exact answers_ok _ _ _ _ l4); (first | exact okT | exact okN | exact okE rfl)) | refine thenQ_n ?_ | refine thenQ_r ?_ | refine thenQ_e ?_ | refine blockQ_n ?_ | refine blockQ_r ?_ | refine blockQ_e ?_ | (apply blockQ_o; (exact rfl)) | refine Awp.seq ?_ | refine Awp.skip ?_ | refine Awp.block ?_ | refine reg (fun s => false) ?_ | (apply drwE mixed (fun s => false); (kernel_rfl)) | refine fin ?_ | (apply condT; (exact rfl)) | (apply condF; (exact rfl)) | refine Awp.ret ?_ | refine Awp.exit ?_ | ((first | apply bodyQ_d0 | apply bodyQ_d1 | apply bodyQ_d2 | apply bodyQ_d3 | apply bodyQ_d4); (exact .inr rfl); (rw [Try.results8]; simp only [go_sem, ↓reduceIte, Nat.reduceEqDiff, Nat.reduceBEq, Nat.reduceAdd, Nat.reduceLeDiff, Nat.reduceMul, Nat.reduceLT, Int.reduceToNat, reduceCtorEq, Int.reduceBEq, Int.reduceBNe, Int.reduceLT, Int.reduceLE, Int.reduceGT, Int.reduceGE, Cb.cs, rowE]; rfl); (first | (show Bel _ _; (focus first | exact .val _ | (simp [oneOf, Bel_iff_tup, Bel_iff_agg, Bel_iff_rsl, Bel_iff_fn, Bel_iff_rptr, Bel_val]; done))) | (fail_if_success (show Bel _ _)))) | ((first | apply gT | apply condT); (first | (focus (simp only [go_sem, ↓reduceIte, Nat.reduceEqDiff, Nat.reduceBEq, Nat.reduceAdd, Nat.reduceLeDiff, Nat.reduceMul, Nat.reduceLT, Int.reduceToNat, reduceCtorEq, Int.reduceBEq, Int.reduceBNe, Int.reduceLT, Int.reduceLE, Int.reduceGT, Int.reduceGE, Cb.cs, rowE] <;> rfl)) | exact rfl)) | ((first | (apply off; (exact rfl)) | apply condF); (first | (focus (simp only [go_sem, ↓reduceIte, Nat.reduceEqDiff, Nat.reduceBEq, Nat.reduceAdd, Nat.reduceLeDiff, Nat.reduceMul, Nat.reduceLT, Int.reduceToNat, reduceCtorEq, Int.reduceBEq, Int.reduceBNe, Int.reduceLT, Int.reduceLE, Int.reduceGT, Int.reduceGE, Cb.cs, rowE] <;> rfl)) | exact rfl)))
    all_goals first | rfl | contradiction | (exfalso; rename_i h; exact h rfl) | skip
    all_goals trace_state
    all_goals sorry

def sh8 : List (Bool × List Sh) := [cbS]
theorem law8 : ∀ xs, ArgsFit sh8 xs → ACalls Try.prog 8 xs [] fun v _ => v = .val (.bool true) := by
  intro xs h0
  obtain ⟨c, l, rfl, h1⟩ := cbArg h0
  obtain rfl := arg0 h1
  exact (CableCurrents_ok c).mono fun v H' h => h.1

end Go.Proofs.Ytphfdbmbdaninaa.Ab
