/- How the library compares two nodes, at world level. -/
import Derived.Test.YtphfdbmbdaninaaM2
import Derived.Test.YtphfdbmbdaninaaUK
import Derived.WalkKit
import Derived.LoopN
import Derived.Shelf.RegionOpenPlain
namespace Go.Proofs.Ytphfdbmbdaninaa.Ab
open Go Go.RowKit Go.Proofs Go.Lib Go.Shelf Go.Sort
set_option linter.unusedSimpArgs false
set_option linter.unusedVariables false

theorem nanW (x : Int) (W : World) : Calls Try.prog 135 #[.int .i64 x] W fun e w' => e = .returned (.bool false) ∧ w' = W := by
  go_enter Try.func135, Try.ntmps135
  go_wp2
  go_ret
  all_goals simp

theorem cmpW (x y : Int) (W : World) : Calls Try.prog 128 #[.int .i64 x, .int .i64 y] W fun e w' => e = .returned (.int .i64 (cmpI x y)) ∧ w' = W := by
  unfold cmpI
  by_cases h1 : x < y
  · rw [if_pos h1]
    go_enter Try.func128, Try.ntmps128
    go_wp2_with (go_at_call 135; refine (nanW _ _).mono ?_; rintro e w' ⟨rfl, rfl⟩)
    go_ret
    exact ⟨rfl, rfl⟩
  · rw [if_neg h1]
    by_cases h2 : x > y
    · rw [if_pos h2]
      go_enter Try.func128, Try.ntmps128
      go_wp2_with (go_at_call 135; refine (nanW _ _).mono ?_; rintro e w' ⟨rfl, rfl⟩)
      go_ret
      exact ⟨rfl, rfl⟩
    · rw [if_neg h2]
      go_enter Try.func128, Try.ntmps128
      go_wp2_with (go_at_call 135; refine (nanW _ _).mono ?_; rintro e w' ⟨rfl, rfl⟩)
      go_ret
      exact ⟨rfl, rfl⟩

theorem rankW (B bo rb ro k n cap : Nat) (v : Int) (W : World) (hc : W.cell? ⟨B, bo, none⟩ = some (.slice (some ⟨rb, ro, none⟩) n cap)) (hk : k < n) (hv : W.cell? ⟨rb, ro + k, none⟩ = some (.int .i64 v)) :
    Calls Try.prog 108 #[.int .i64 k, .pointer (some ⟨B, bo, none⟩)] W fun e w' => e = .returned (.int .i64 v) ∧ w' = W := by
  have t42 := Try.underlying42; have t3 := Try.underlying3
  have a42 := Try.isAgg42; have a3 := Try.isAgg3; have z3 := Try.sizeOf3; have z42 := Try.sizeOf42
  have v3 := Try.zeroValue3; have v42 := Try.zeroValue42
  go_enter Try.func108, Try.ntmps108
  go_wp2
  go_ret
  exact ⟨rfl, rfl⟩

set_option maxHeartbeats 1000000 in
set_option maxRecDepth 100000 in
theorem orW (b c : Nat) (x y : Int) (W : World) (h0 : W.cell? ⟨b, 0, none⟩ = some (.int .i64 x)) (h1 : W.cell? ⟨b, 0 + 1, none⟩ = some (.int .i64 y)) :
    Calls Try.prog 127 #[.slice (some ⟨b, 0, none⟩) 2 c] W fun e w' => e = .returned (.int .i64 (orL [x, y])) ∧ w' = W := by
  have t42 := Try.underlying42; have t3 := Try.underlying3
  have a42 := Try.isAgg42; have a3 := Try.isAgg3; have z3 := Try.sizeOf3; have z42 := Try.sizeOf42
  have v3 := Try.zeroValue3; have v42 := Try.zeroValue42
  have e : orL [x, y] = if x ≠ 0 then x else if y ≠ 0 then y else 0 := rfl
  rw [e]
  by_cases hx : x = 0
  · subst hx
    rw [if_neg (fun n => n rfl)]
    by_cases hy : y = 0
    · subst hy
      rw [if_neg (fun n => n rfl)]
      go_enter Try.func127, Try.ntmps127
      go_wp2
      refine wp_loop_rounds 3 ?_
      rw [rounds_succ]
      go_wp2
      rw [rounds_succ]
      go_wp2
      rw [rounds_succ]
      go_wp2
      go_ret
      exact ⟨rfl, rfl⟩
    · rw [if_pos hy]
      go_enter Try.func127, Try.ntmps127
      go_wp2
      refine wp_loop_rounds 3 ?_
      rw [rounds_succ]
      go_wp2
      rw [rounds_succ]
      go_wp2
      go_ret
      exact ⟨rfl, rfl⟩
  · rw [if_pos hx]
    go_enter Try.func127, Try.ntmps127
    go_wp2
    refine wp_loop_rounds 3 ?_
    rw [rounds_succ]
    go_wp2
    go_ret
    exact ⟨rfl, rfl⟩

theorem cell_alloc2 (W : World) (x y : Value) (t : TypeId) : (W.alloc (.cells #[x, y] t)).drew.cell? ⟨W.heap.size, 0, none⟩ = some x ∧ (W.alloc (.cells #[x, y] t)).drew.cell? ⟨W.heap.size, 0 + 1, none⟩ = some y := by
  constructor
  · rw [cell_of_cells (show (W.alloc (.cells #[x, y] t)).drew.heap[W.heap.size]? = some (.cells #[x, y] t (0, 0)) by
      have : (W.heap.push (Obj.cells #[x, y] t))[W.heap.size]? = some (.cells #[x, y] t) := by simp
      exact this)]
    rfl
  · rw [cell_of_cells (show (W.alloc (.cells #[x, y] t)).drew.heap[W.heap.size]? = some (.cells #[x, y] t (0, 0)) by
      have : (W.heap.push (Obj.cells #[x, y] t))[W.heap.size]? = some (.cells #[x, y] t) := by simp
      exact this)]
    rfl

set_option maxHeartbeats 1000000 in
set_option maxRecDepth 100000 in
/-- the comparison, in a world where the ranks of its nodes are known -/
theorem cfW (KB ko RB qo rb ro n cap : Nat) (i j : Nat) (x y : Int) (W : World) (hk : W.cell? ⟨KB, ko, none⟩ = some (.func (.func 108) #[] #[.pointer (some ⟨RB, qo, none⟩)]))
    (hc : W.cell? ⟨RB, qo, none⟩ = some (.slice (some ⟨rb, ro, none⟩) n cap)) (hi : i < n) (hj : j < n) (hx : W.cell? ⟨rb, ro + i, none⟩ = some (.int .i64 x)) (hy : W.cell? ⟨rb, ro + j, none⟩ = some (.int .i64 y)) :
    Calls Try.prog 126 #[.int .i64 i, .int .i64 j, .pointer (some ⟨KB, ko, none⟩)] W fun e w' => e = .returned (.int .i64 (orL [cmpI y x, cmpI i j])) ∧ ∃ q os, w' = grow (W.drewN q) os := by
  have t42 := Try.underlying42; have t3 := Try.underlying3; have t135 := Try.underlying135
  have a42 := Try.isAgg42; have a3 := Try.isAgg3; have z3 := Try.sizeOf3; have z42 := Try.sizeOf42
  have v3 := Try.zeroValue3; have v42 := Try.zeroValue42
  have mixed : Try.prog.follows .mixedOrders = true := by kernel_rfl
  go_enter Try.func126, Try.ntmps126
  go_wp2
  go_region_with_o (first
    | (refine (cmpW _ _ _).mono ?_; rintro e w' ⟨rfl, rfl⟩)
    | (refine (rankW RB qo rb ro j n cap y _ (by simpa using hc) hj (by simpa using hy)).mono ?_; rintro e w' ⟨rfl, rfl⟩)
    | (refine (rankW RB qo rb ro i n cap x _ (by simpa using hc) hi (by simpa using hx)).mono ?_; rintro e w' ⟨rfl, rfl⟩)
    | (refine (orW _ _ _ _ _ (cell_alloc2 _ _ _ _).1 (cell_alloc2 _ _ _ _).2).mono ?_; rintro e w' ⟨rfl, rfl⟩))
  all_goals go_wp2
  all_goals go_ret
  all_goals exact ⟨rfl, 1, #[.cells #[.int .i64 (cmpI y x), .int .i64 (cmpI i j)] 3], by rw [alloc_eq_grow, drew_grow]; rfl⟩

end Go.Proofs.Ytphfdbmbdaninaa.Ab
