/- Cables: the law CableTrees. -/
import Derived.Test.YtphfdbmbdaninaaWH
import Derived.Test.YtphfdbmbdaninaaWJ
import Derived.Test.YtphfdbmbdaninaaWD
namespace Go.Proofs.Ytphfdbmbdaninaa.Ab
open Go Go.RowKit Go.Proofs
set_option linter.unusedSimpArgs false
set_option linter.unusedVariables false
attribute [local irreducible] Awp wpO thenQ blockQ bodyQ ACalls stepA

theorem ifK_map {α β : Type} (c : Cb) (k : Int) (f : α → β) (v : List α) : ifK c k (v.map f) = (ifK c k v).map f := by unfold ifK; split <;> rfl
theorem ifK_len {α : Type} {c : Cb} (hL : ¬ c.long) {k : Int} {v : List α} (h : c.good → 0 ≤ k ∧ k < c.l.length → v.length ≤ 1000) : (ifK c k v).length ≤ maxLen := by
  unfold ifK
  split
  · rename_i hc
    have := h (good_of hL hc.1) hc.2
    simp only [maxLen]; omega
  · simp
theorem ifK_nats (c : Cb) (k : Int) (v : List Nat) : ifK c k (nats v) = ints (ifK c k (v.map (fun (n : Nat) => (n : Int)))) := by
  rw [nats_ints]; exact ifK_map _ _ _ _

theorem CableTrees_ok (c : Cb) (k : Int) : CallsTo Try.prog 5 [.agg c.cs, iv k] [] (bv true) [] := by
  have hf := fine_ok
  have hl := fun H => long_ok H c
  by_cases hL : c.long
  · rw [decide_eq_true hL] at hl
    refine ACalls.of_body Try.func5 rfl (by kernel_rfl) (by rw [Try.ntmps5]; simp) ?_; rw [Try.ntmps5]
    repeat' (first | refine spD (fun _ => ?_) (fun _ => ?_) | refine spF (fun _ => ?_) (fun _ => ?_) | ((first | (apply stp0; (exact rfl); (exact rfl)) | (apply stpN0; (exact rfl))); (simp only [go_sem, ↓reduceIte, Nat.reduceEqDiff, Nat.reduceBEq, Nat.reduceAdd, Nat.reduceLeDiff, Nat.reduceMul, Nat.reduceLT, Int.reduceToNat, reduceCtorEq, Int.reduceBEq, Int.reduceBNe, Int.reduceLT, Int.reduceLE, Int.reduceGT, Int.reduceGE, Cb.cs]; rfl); (first | exact okT | exact okN | exact okE rfl)) | (apply gT; (exact rfl)) | (apply off; (exact rfl); (exact rfl)) | (apply calTo0; (exact rfl); (iterate 2 (simp only [go_sem, ↓reduceIte, Nat.reduceEqDiff, Nat.reduceBEq, Nat.reduceAdd, Nat.reduceLeDiff, Nat.reduceMul, Nat.reduceLT, Int.reduceToNat, reduceCtorEq, Int.reduceBEq, Int.reduceBNe, Int.reduceLT, Int.reduceLE, Int.reduceGT, Int.reduceGE, Cb.cs]; rfl)); (first | exact hl _ | exact hf _); (first | exact okT | exact okN | exact okE rfl)) | refine thenQ_n ?_ | refine thenQ_r ?_ | refine thenQ_e ?_ | refine blockQ_n ?_ | refine blockQ_r ?_ | refine blockQ_e ?_ | (apply blockQ_o; (exact rfl)) | refine Awp.seq ?_ | refine Awp.skip ?_ | refine Awp.block ?_ | refine reg (fun s => false) ?_ | (apply drwE mixed (fun s => false); (kernel_rfl)) | refine fin ?_ | (apply condT; (exact rfl)) | (apply condF; (exact rfl)) | refine Awp.ret ?_ | refine Awp.exit ?_ | ((first | apply bodyQ_d0 | apply bodyQ_d1 | apply bodyQ_d2 | apply bodyQ_d3 | apply bodyQ_d4); (exact .inr rfl); (rw [Try.results5]; simp only [go_sem, ↓reduceIte, Nat.reduceEqDiff, Nat.reduceBEq, Nat.reduceAdd, Nat.reduceLeDiff, Nat.reduceMul, Nat.reduceLT, Int.reduceToNat, reduceCtorEq, Int.reduceBEq, Int.reduceBNe, Int.reduceLT, Int.reduceLE, Int.reduceGT, Int.reduceGE, Cb.cs]; rfl); (first | (show Bel _ _; (focus first | exact .val _ | (simp [oneOf, Bel_iff_tup, Bel_iff_agg, Bel_iff_rsl, Bel_iff_fn, Bel_iff_rptr, Bel_val]; done))) | (fail_if_success (show Bel _ _)))) | ((first | apply gT | apply condT); (first | (focus (simp only [go_sem, ↓reduceIte, Nat.reduceEqDiff, Nat.reduceBEq, Nat.reduceAdd, Nat.reduceLeDiff, Nat.reduceMul, Nat.reduceLT, Int.reduceToNat, reduceCtorEq, Int.reduceBEq, Int.reduceBNe, Int.reduceLT, Int.reduceLE, Int.reduceGT, Int.reduceGE, Cb.cs] <;> rfl)) | exact rfl)) | ((first | (apply off; (exact rfl)) | apply condF); (first | (focus (simp only [go_sem, ↓reduceIte, Nat.reduceEqDiff, Nat.reduceBEq, Nat.reduceAdd, Nat.reduceLeDiff, Nat.reduceMul, Nat.reduceLT, Int.reduceToNat, reduceCtorEq, Int.reduceBEq, Int.reduceBNe, Int.reduceLT, Int.reduceLE, Int.reduceGT, Int.reduceGE, Cb.cs] <;> rfl)) | exact rfl)))
    all_goals rfl
  · rw [decide_eq_false hL] at hl
    have k1 := fun H => Path_ok H c hL k
    have k2 := fun H => rPath_ok H c hL k
    have k3 := fun H => Subtree_ok H c hL k
    have k4 := fun H => rSubtree_ok H c hL k
    rw [ifK_nats] at k1 k2 k3 k4
    have l1 := ifK_len hL (k := k) (v := (pth c.l k.toNat).map (fun (n : Nat) => (n : Int))) (fun hg hk => by
      have := pth_len c.l k.toNat; have := hg.h.2.1; simp; omega)
    have l2 := ifK_len hL (k := k) (v := (sub c.l k.toNat).map (fun (n : Nat) => (n : Int))) (fun hg hk => by
      have h1 := subN_len c.l k.toNat c.l.length; have := hg.h.2.1; rw [subN_all] at h1; simp; omega)
    refine ACalls.of_body Try.func5 rfl (by kernel_rfl) (by rw [Try.ntmps5]; simp) ?_; rw [Try.ntmps5]
    repeat' (first | refine spD (fun _ => ?_) (fun _ => ?_) | refine spF (fun _ => ?_) (fun _ => ?_) | ((first | (apply stp0; (exact rfl); (exact rfl)) | (apply stpN0; (exact rfl))); (simp only [go_sem, ↓reduceIte, Nat.reduceEqDiff, Nat.reduceBEq, Nat.reduceAdd, Nat.reduceLeDiff, Nat.reduceMul, Nat.reduceLT, Int.reduceToNat, reduceCtorEq, Int.reduceBEq, Int.reduceBNe, Int.reduceLT, Int.reduceLE, Int.reduceGT, Int.reduceGE, Cb.cs, rowE]; rfl); (first | exact okT | exact okN | exact okE rfl)) | (apply gT; (exact rfl)) | (apply off; (exact rfl); (exact rfl)) | (apply calTo0; (exact rfl); (iterate 2 (simp only [go_sem, ↓reduceIte, Nat.reduceEqDiff, Nat.reduceBEq, Nat.reduceAdd, Nat.reduceLeDiff, Nat.reduceMul, Nat.reduceLT, Int.reduceToNat, reduceCtorEq, Int.reduceBEq, Int.reduceBNe, Int.reduceLT, Int.reduceLE, Int.reduceGT, Int.reduceGE, Cb.cs, rowE]; rfl)); (first | exact hl _ | exact hf _ | exact k1 _ | exact k2 _ | exact k3 _ | exact k4 _ | exact ints_ok _ _ _ _ l1 | exact ints_ok _ _ _ _ l2 | exact Check_ok _ c | exact rCheck_ok _ c); (first | exact okT | exact okN | exact okE rfl)) | refine thenQ_n ?_ | refine thenQ_r ?_ | refine thenQ_e ?_ | refine blockQ_n ?_ | refine blockQ_r ?_ | refine blockQ_e ?_ | (apply blockQ_o; (exact rfl)) | refine Awp.seq ?_ | refine Awp.skip ?_ | refine Awp.block ?_ | refine reg (fun s => false) ?_ | (apply drwE mixed (fun s => false); (kernel_rfl)) | refine fin ?_ | (apply condT; (exact rfl)) | (apply condF; (exact rfl)) | refine Awp.ret ?_ | refine Awp.exit ?_ | ((first | apply bodyQ_d0 | apply bodyQ_d1 | apply bodyQ_d2 | apply bodyQ_d3 | apply bodyQ_d4); (exact .inr rfl); (rw [Try.results5]; simp only [go_sem, ↓reduceIte, Nat.reduceEqDiff, Nat.reduceBEq, Nat.reduceAdd, Nat.reduceLeDiff, Nat.reduceMul, Nat.reduceLT, Int.reduceToNat, reduceCtorEq, Int.reduceBEq, Int.reduceBNe, Int.reduceLT, Int.reduceLE, Int.reduceGT, Int.reduceGE, Cb.cs, rowE]; rfl); (first | (show Bel _ _; (focus first | exact .val _ | (simp [oneOf, Bel_iff_tup, Bel_iff_agg, Bel_iff_rsl, Bel_iff_fn, Bel_iff_rptr, Bel_val]; done))) | (fail_if_success (show Bel _ _)))) | ((first | apply gT | apply condT); (first | (focus (simp only [go_sem, ↓reduceIte, Nat.reduceEqDiff, Nat.reduceBEq, Nat.reduceAdd, Nat.reduceLeDiff, Nat.reduceMul, Nat.reduceLT, Int.reduceToNat, reduceCtorEq, Int.reduceBEq, Int.reduceBNe, Int.reduceLT, Int.reduceLE, Int.reduceGT, Int.reduceGE, Cb.cs, rowE] <;> rfl)) | exact rfl)) | ((first | (apply off; (exact rfl)) | apply condF); (first | (focus (simp only [go_sem, ↓reduceIte, Nat.reduceEqDiff, Nat.reduceBEq, Nat.reduceAdd, Nat.reduceLeDiff, Nat.reduceMul, Nat.reduceLT, Int.reduceToNat, reduceCtorEq, Int.reduceBEq, Int.reduceBNe, Int.reduceLT, Int.reduceLE, Int.reduceGT, Int.reduceGE, Cb.cs, rowE] <;> rfl)) | exact rfl)))
    all_goals first | rfl | contradiction | (exfalso; rename_i h; exact h rfl) | skip

def sh5 : List (Bool × List Sh) := [cbS, (false, [I])]
theorem law5 : ∀ xs, ArgsFit sh5 xs → ACalls Try.prog 5 xs [] fun v _ => v = .val (.bool true) := by
  intro xs h0
  obtain ⟨c, l, rfl, h1⟩ := cbArg h0
  obtain ⟨k, l, rfl, _, h2⟩ := intArg h1
  obtain rfl := arg0 h2
  exact (CableTrees_ok c k).mono fun v H' h => h.1

end Go.Proofs.Ytphfdbmbdaninaa.Ab
