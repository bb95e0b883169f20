/- Fields: the chapter's examples. -/
import Derived.Test.YtehagceghnjamaaG2
namespace Go.Proofs.Ytehagceghnjamaa.Ab
open Go Go.RowKit Go.Proofs
set_option linter.unusedSimpArgs false
set_option linter.unusedVariables false
attribute [local irreducible] Awp wpO thenQ blockQ bodyQ ACalls stepA

def exF : Fd := ⟨3, 1, 1, 0, 100, 10, 5⟩
def exL : List Seen := [⟨0, 0, 20, 30⟩, ⟨1, 2, 45, 70⟩]

theorem Example_ok (H : Hp) : CallsTo Try.prog 48 [] H (.tup [.agg exF.cs, .rsl (exL.map Seen.cs) true]) H := by
  refine ACalls.of_body Try.func48 rfl (by kernel_rfl) (by rw [Try.ntmps48]; simp) ?_; rw [Try.ntmps48]
  repeat' (first | refine spD (fun _ => ?_) (fun _ => ?_) | refine spF (fun _ => ?_) (fun _ => ?_) | ((first | (apply stp0; (exact rfl); (exact rfl)) | (apply stpN0; (exact rfl))); (simp only [go_sem, ↓reduceIte, Nat.reduceEqDiff, Nat.reduceBEq, Nat.reduceAdd, Nat.reduceLeDiff, Nat.reduceMul, Nat.reduceLT, Int.reduceToNat, reduceCtorEq, Int.reduceBEq, Int.reduceBNe, Int.reduceLT, Int.reduceLE, Int.reduceGT, Int.reduceGE]; rfl); (first | exact okT | exact okN | exact okE rfl)) | (apply gT; (exact rfl)) | (apply off; (exact rfl); (exact rfl)) | refine thenQ_n ?_ | refine thenQ_r ?_ | refine thenQ_e ?_ | refine blockQ_n ?_ | refine blockQ_r ?_ | refine blockQ_e ?_ | (apply blockQ_o; (exact rfl)) | refine Awp.seq ?_ | refine Awp.skip ?_ | refine Awp.block ?_ | refine reg (fun s => s == 0 || s == 2) ?_ | (apply drwE mixed (fun s => s == 0 || s == 2); (kernel_rfl)) | refine fin ?_ | (apply condT; (exact rfl)) | (apply condF; (exact rfl)) | refine Awp.ret ?_ | refine Awp.exit ?_ | ((first | apply bodyQ_d0 | apply bodyQ_d1 | apply bodyQ_d2 | apply bodyQ_d3 | apply bodyQ_d4); (exact .inr rfl); (rw [Try.results48]; simp only [go_sem, ↓reduceIte, Nat.reduceEqDiff, Nat.reduceBEq, Nat.reduceAdd, Nat.reduceLeDiff, Nat.reduceMul, Nat.reduceLT, Int.reduceToNat, reduceCtorEq, Int.reduceBEq, Int.reduceBNe, Int.reduceLT, Int.reduceLE, Int.reduceGT, Int.reduceGE]; rfl); (first | (show Bel _ _; (focus first | exact .val _ | (simp [oneOf, Bel_iff_tup, Bel_iff_agg, Bel_iff_rsl, Bel_val]; done))) | (fail_if_success (show Bel _ _)))) | ((first | apply gT | apply condT); (focus (simp only [go_sem, ↓reduceIte, Nat.reduceEqDiff, Nat.reduceBEq, Nat.reduceAdd, Nat.reduceLeDiff, Nat.reduceMul, Nat.reduceLT, Int.reduceToNat, reduceCtorEq, Int.reduceBEq, Int.reduceBNe, Int.reduceLT, Int.reduceLE, Int.reduceGT, Int.reduceGE] <;> rfl))) | ((first | (apply off; (exact rfl)) | apply condF); (focus (simp only [go_sem, ↓reduceIte, Nat.reduceEqDiff, Nat.reduceBEq, Nat.reduceAdd, Nat.reduceLeDiff, Nat.reduceMul, Nat.reduceLT, Int.reduceToNat, reduceCtorEq, Int.reduceBEq, Int.reduceBNe, Int.reduceLT, Int.reduceLE, Int.reduceGT, Int.reduceGE] <;> rfl))))
  rfl

theorem exS : (setsUp exF exL exF.n).map Sp.cs = [[iv 20, iv 30], [iv 30, iv 40], [iv 40, iv 50], [iv 25, iv 35], [iv 35, iv 45], [iv 45, iv 55]] := by kernel_rfl
theorem exP : promE exF exL ⟨0, 1⟩ 0 = (50, 0) := by kernel_rfl
theorem exA : exF.all exL = 0 := by decide

theorem exSets (H : Hp) : CallsTo Try.prog 16 [.agg [iv 3, iv 1, iv 1, iv 0, iv 100, iv 10, iv 5], .rsl [[iv 0, iv 0, iv 20, iv 30], [iv 1, iv 2, iv 45, iv 70]] true] H (.tup [.rsl [[iv 20, iv 30], [iv 30, iv 40], [iv 40, iv 50], [iv 25, iv 35], [iv 35, iv 45], [iv 45, iv 55]] false, iv 0]) H := by
  have := Sets_ok H exF exL true
  rwa [if_pos exA, exS] at this

theorem exProm (H : Hp) : CallsTo Try.prog 20 [.agg [iv 3, iv 1, iv 1, iv 0, iv 100, iv 10, iv 5], .rsl [[iv 0, iv 0, iv 20, iv 30], [iv 1, iv 2, iv 45, iv 70]] true, .agg [iv 0, iv 1], iv 0] H (.tup [iv 50, iv 0]) H := by
  have := Promise_ok H exF exL true ⟨0, 1⟩ 0
  rwa [exP] at this

theorem exEx (H : Hp) : CallsTo Try.prog 48 [] H (.tup [.agg [iv 3, iv 1, iv 1, iv 0, iv 100, iv 10, iv 5], .rsl [[iv 0, iv 0, iv 20, iv 30], [iv 1, iv 2, iv 45, iv 70]] true]) H := Example_ok H

set_option maxRecDepth 8000 in
theorem fine_ok (H : Hp) : CallsTo Try.prog 14 [] H (bv true) H := by
  refine ACalls.of_body Try.func14 rfl (by kernel_rfl) (by rw [Try.ntmps14]; simp) ?_; rw [Try.ntmps14]
  repeat' (first | refine spD (fun _ => ?_) (fun _ => ?_) | refine spF (fun _ => ?_) (fun _ => ?_) | ((first | (apply stp0; (exact rfl); (exact rfl)) | (apply stpN0; (exact rfl))); (simp only [go_sem, ↓reduceIte, Nat.reduceEqDiff, Nat.reduceBEq, Nat.reduceAdd, Nat.reduceLeDiff, Nat.reduceMul, Nat.reduceLT, Int.reduceToNat, reduceCtorEq, Int.reduceBEq, Int.reduceBNe, Int.reduceLT, Int.reduceLE, Int.reduceGT, Int.reduceGE]; rfl); (first | exact okT | exact okN | exact okE rfl)) | (apply gT; (exact rfl)) | (apply off; (exact rfl); (exact rfl)) | (apply calTo0; (exact rfl); (iterate 2 (simp only [go_sem, ↓reduceIte, Nat.reduceEqDiff, Nat.reduceBEq, Nat.reduceAdd, Nat.reduceLeDiff, Nat.reduceMul, Nat.reduceLT, Int.reduceToNat, reduceCtorEq, Int.reduceBEq, Int.reduceBNe, Int.reduceLT, Int.reduceLE, Int.reduceGT, Int.reduceGE]; rfl)); (first | exact exEx _ | exact exSets _ | exact exProm _); (first | exact okT | exact okN | exact okE rfl)) | refine thenQ_n ?_ | refine thenQ_r ?_ | refine thenQ_e ?_ | refine blockQ_n ?_ | refine blockQ_r ?_ | refine blockQ_e ?_ | (apply blockQ_o; (exact rfl)) | refine Awp.seq ?_ | refine Awp.skip ?_ | refine Awp.block ?_ | refine reg (fun s => s == 1) ?_ | (apply drwE mixed (fun s => s == 1); (kernel_rfl)) | refine fin ?_ | (apply condT; (exact rfl)) | (apply condF; (exact rfl)) | refine Awp.ret ?_ | refine Awp.exit ?_ | ((first | apply bodyQ_d0 | apply bodyQ_d1 | apply bodyQ_d2 | apply bodyQ_d3 | apply bodyQ_d4); (exact .inr rfl); (rw [Try.results14]; simp only [go_sem, ↓reduceIte, Nat.reduceEqDiff, Nat.reduceBEq, Nat.reduceAdd, Nat.reduceLeDiff, Nat.reduceMul, Nat.reduceLT, Int.reduceToNat, reduceCtorEq, Int.reduceBEq, Int.reduceBNe, Int.reduceLT, Int.reduceLE, Int.reduceGT, Int.reduceGE]; rfl); (first | (show Bel _ _; (focus first | exact .val _ | (simp [oneOf, Bel_iff_tup, Bel_iff_agg, Bel_iff_rsl, Bel_val]; done))) | (fail_if_success (show Bel _ _)))) | ((first | apply gT | apply condT); (focus (simp only [go_sem, ↓reduceIte, Nat.reduceEqDiff, Nat.reduceBEq, Nat.reduceAdd, Nat.reduceLeDiff, Nat.reduceMul, Nat.reduceLT, Int.reduceToNat, reduceCtorEq, Int.reduceBEq, Int.reduceBNe, Int.reduceLT, Int.reduceLE, Int.reduceGT, Int.reduceGE] <;> rfl))) | ((first | (apply off; (exact rfl)) | apply condF); (focus (simp only [go_sem, ↓reduceIte, Nat.reduceEqDiff, Nat.reduceBEq, Nat.reduceAdd, Nat.reduceLeDiff, Nat.reduceMul, Nat.reduceLT, Int.reduceToNat, reduceCtorEq, Int.reduceBEq, Int.reduceBNe, Int.reduceLT, Int.reduceLE, Int.reduceGT, Int.reduceGE] <;> rfl))))
  · rfl
  · rename_i h; exact absurd rfl h
  · rename_i h; exact absurd (by decide) h

end Go.Proofs.Ytehagceghnjamaa.Ab
