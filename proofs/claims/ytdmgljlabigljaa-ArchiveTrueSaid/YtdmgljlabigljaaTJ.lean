/- Archive: how the library compares two keys, at world level. -/
import Derived.Test.YtdmgljlabigljaaTR
import Derived.Test.YtdmgljlabigljaaTH
import Derived.WalkKit
import Derived.LoopN
import Derived.Shelf.RegionOpenPlain
namespace Go.Proofs.Ytdmgljlabigljaa.Ab
open Go Go.RowKit Go.Proofs Go.Lib Go.Maps Go.Sort Go.Shelf
set_option linter.unusedSimpArgs false
set_option linter.unusedVariables false

def sgn (x y : Int) : Int := if x < y then -1 else if x > y then 1 else 0
def or3 (x y z : Int) : Int := if x ≠ 0 then x else if y ≠ 0 then y else if z ≠ 0 then z else 0
theorem nan47W (x : Int) (W : World) : Calls Try.prog 47 #[.int .i64 x] W fun e w' => e = .returned (.bool false) ∧ w' = W := by
  go_enter Try.func47, Try.ntmps47
  go_wp2
  go_ret
  all_goals simp
theorem nan48W (x : Int) (W : World) : Calls Try.prog 48 #[.int .i64 x] W fun e w' => e = .returned (.bool false) ∧ w' = W := by
  go_enter Try.func48, Try.ntmps48
  go_wp2
  go_ret
  all_goals simp
theorem cmp38W (x y : Int) (W : World) : Calls Try.prog 38 #[.int .i64 x, .int .i64 y] W fun e w' => e = .returned (.int .i64 (sgn x y)) ∧ w' = W := by
  unfold sgn
  by_cases h1 : x < y
  · rw [if_pos h1]
    go_enter Try.func38, Try.ntmps38
    go_wp2_with (go_at_call 47; refine (nan47W _ _).mono ?_; rintro e w' ⟨rfl, rfl⟩)
    go_ret
    exact ⟨rfl, rfl⟩
  · rw [if_neg h1]
    by_cases h2 : x > y
    · rw [if_pos h2]
      go_enter Try.func38, Try.ntmps38
      go_wp2_with (go_at_call 47; refine (nan47W _ _).mono ?_; rintro e w' ⟨rfl, rfl⟩)
      go_ret
      exact ⟨rfl, rfl⟩
    · rw [if_neg h2]
      go_enter Try.func38, Try.ntmps38
      go_wp2_with (go_at_call 47; refine (nan47W _ _).mono ?_; rintro e w' ⟨rfl, rfl⟩)
      go_ret
      exact ⟨rfl, rfl⟩
theorem cmp39W (x y : Int) (W : World) : Calls Try.prog 39 #[.int .i64 x, .int .i64 y] W fun e w' => e = .returned (.int .i64 (sgn x y)) ∧ w' = W := by
  unfold sgn
  by_cases h1 : x < y
  · rw [if_pos h1]
    go_enter Try.func39, Try.ntmps39
    go_wp2_with (go_at_call 48; refine (nan48W _ _).mono ?_; rintro e w' ⟨rfl, rfl⟩)
    go_ret
    exact ⟨rfl, rfl⟩
  · rw [if_neg h1]
    by_cases h2 : x > y
    · rw [if_pos h2]
      go_enter Try.func39, Try.ntmps39
      go_wp2_with (go_at_call 48; refine (nan48W _ _).mono ?_; rintro e w' ⟨rfl, rfl⟩)
      go_ret
      exact ⟨rfl, rfl⟩
    · rw [if_neg h2]
      go_enter Try.func39, Try.ntmps39
      go_wp2_with (go_at_call 48; refine (nan48W _ _).mono ?_; rintro e w' ⟨rfl, rfl⟩)
      go_ret
      exact ⟨rfl, rfl⟩

set_option maxHeartbeats 1000000 in
set_option maxRecDepth 100000 in
theorem or37W (b c : Nat) (x y z : Int) (W : World) (h0 : W.cell? ⟨b, 0, none⟩ = some (.int .i64 x)) (h1 : W.cell? ⟨b, 0 + 1, none⟩ = some (.int .i64 y)) (h2 : W.cell? ⟨b, 0 + 2, none⟩ = some (.int .i64 z)) :
    Calls Try.prog 37 #[.slice (some ⟨b, 0, none⟩) 3 c] W fun e w' => e = .returned (.int .i64 (or3 x y z)) ∧ w' = W := by
  have t96 := Try.underlying96; have t3 := Try.underlying3
  have a96 := Try.isAgg96; have a3 := Try.isAgg3; have z3 := Try.sizeOf3; have z96 := Try.sizeOf96
  have v3 := Try.zeroValue3; have v96 := Try.zeroValue96
  unfold or3
  by_cases hx : x = 0
  · subst hx
    rw [if_neg (fun n => n rfl)]
    by_cases hy : y = 0
    · subst hy
      rw [if_neg (fun n => n rfl)]
      by_cases hz : z = 0
      · subst hz
        rw [if_neg (fun n => n rfl)]
        go_enter Try.func37, Try.ntmps37
        go_wp2
        refine wp_loop_rounds 4 ?_
        rw [rounds_succ]
        go_wp2
        rw [rounds_succ]
        go_wp2
        rw [rounds_succ]
        go_wp2
        rw [rounds_succ]
        go_wp2
        go_ret
        exact ⟨rfl, rfl⟩
      · rw [if_pos hz]
        go_enter Try.func37, Try.ntmps37
        go_wp2
        refine wp_loop_rounds 4 ?_
        rw [rounds_succ]
        go_wp2
        rw [rounds_succ]
        go_wp2
        rw [rounds_succ]
        go_wp2
        go_ret
        exact ⟨rfl, rfl⟩
    · rw [if_pos hy]
      go_enter Try.func37, Try.ntmps37
      go_wp2
      refine wp_loop_rounds 4 ?_
      rw [rounds_succ]
      go_wp2
      rw [rounds_succ]
      go_wp2
      go_ret
      exact ⟨rfl, rfl⟩
  · rw [if_pos hx]
    go_enter Try.func37, Try.ntmps37
    go_wp2
    refine wp_loop_rounds 4 ?_
    rw [rounds_succ]
    go_wp2
    go_ret
    exact ⟨rfl, rfl⟩

theorem cell_alloc3 (W : World) (x y z : Value) (t : TypeId) : (W.alloc (.cells #[x, y, z] t)).drew.cell? ⟨W.heap.size, 0, none⟩ = some x ∧ (W.alloc (.cells #[x, y, z] t)).drew.cell? ⟨W.heap.size, 0 + 1, none⟩ = some y ∧ (W.alloc (.cells #[x, y, z] t)).drew.cell? ⟨W.heap.size, 0 + 2, none⟩ = some z := by
  have h : (W.alloc (.cells #[x, y, z] t)).drew.heap[W.heap.size]? = some (.cells #[x, y, z] t (0, 0)) := by
    have : (W.heap.push (Obj.cells #[x, y, z] t))[W.heap.size]? = some (.cells #[x, y, z] t) := by simp
    exact this
  refine ⟨?_, ?_, ?_⟩
  · rw [cell_of_cells h]; rfl
  · rw [cell_of_cells h]; rfl
  · rw [cell_of_cells h]; rfl

def cfK (x y : K3) : Int := or3 (sgn x.1 y.1) (sgn x.2.1 y.2.1) (sgn x.2.2 y.2.2)

end Go.Proofs.Ytdmgljlabigljaa.Ab
