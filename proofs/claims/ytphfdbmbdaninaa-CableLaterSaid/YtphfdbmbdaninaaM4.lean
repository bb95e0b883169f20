/- Sorting nodes by their ranks, at world level. -/
import Derived.Test.YtphfdbmbdaninaaM3
namespace Go.Proofs.Ytphfdbmbdaninaa.Ab
open Go Go.RowKit Go.Proofs Go.Lib Go.Shelf Go.Sort
set_option linter.unusedSimpArgs false
set_option linter.unusedVariables false

theorem heap_sortWorld {α : Type} [Inhabited α] (enc : α → Value) (w : World) (blk off m : Nat) (dk : Array α) (os : Array Obj) {x : Nat} (hne : x ≠ blk) (hlt : x < w.heap.size) : (sortWorld enc w blk off m dk os).heap[x]? = w.heap[x]? := by
  unfold sortWorld
  rw [heap_grow_old _ _ (by simpa using hlt)]
  simp only [putRow, mapBlock, heap_ahead, Array.getElem?_modify]
  rw [if_neg (fun e => hne e.symm)]
theorem cell_sortWorld {α : Type} [Inhabited α] (enc : α → Value) (w : World) (blk off m : Nat) (dk : Array α) (os : Array Obj) {x o : Nat} (hne : x ≠ blk) (hlt : x < w.heap.size) :
    (sortWorld enc w blk off m dk os).cell? ⟨x, o, none⟩ = w.cell? ⟨x, o, none⟩ := by
  have h := heap_sortWorld enc w blk off m dk os hne hlt
  unfold World.cell?
  simp only [h]

theorem bef_swo (r : List Int) (n : Nat) : SWO (ltOf fun a b : Fin n => Cp.cfR r a.1 b.1) where
  irrefl x := by
    unfold ltOf
    rw [decide_eq_false (fun h => Bef.irrefl r x.1 (cfR_neg.1 h))]
  trans x y z h1 h2 := by
    unfold ltOf at *
    simp only [decide_eq_true_eq] at *
    exact cfR_neg.2 ((cfR_neg.1 h1).trans (cfR_neg.1 h2))
  ntrans x y z h1 h2 := by
    unfold ltOf at *
    simp only [decide_eq_false_iff_not] at *
    rw [cfR_neg] at *
    unfold Bef at *
    omega
theorem bef_total (r : List Int) (n : Nat) (x y : Fin n) (h1 : ltOf (fun a b : Fin n => Cp.cfR r a.1 b.1) x y = false) (h2 : ltOf (fun a b : Fin n => Cp.cfR r a.1 b.1) y x = false) : x = y := by
  unfold ltOf at *
  simp only [decide_eq_false_iff_not] at *
  rw [cfR_neg] at *
  exact Fin.ext (Bef.total h1 h2)

/-- what the sort asks of the comparison -/
theorem cmp_lays (n : Nat) [Inhabited (Fin n)] (r : List Int) (hr : r.length = n) (KB ko RB qo rb ro cap blk off size : Nat) (w : World) (h1 : KB ≠ blk ∧ KB < w.heap.size) (h2 : RB ≠ blk ∧ RB < w.heap.size) (h3 : rb ≠ blk ∧ rb < w.heap.size)
    (hk : w.cell? ⟨KB, ko, none⟩ = some (.func (.func 108) #[] #[.pointer (some ⟨RB, qo, none⟩)])) (hc : w.cell? ⟨RB, qo, none⟩ = some (.slice (some ⟨rb, ro, none⟩) n cap))
    (hv : ∀ i, i < n → w.cell? ⟨rb, ro + i, none⟩ = some (.int .i64 (gA r i))) :
    CmpLays1 Try.prog 126 #[.pointer (some ⟨KB, ko, none⟩)] (fun a : Fin n => Value.int .i64 (a.1 : Int)) (fun a b => Cp.cfR r a.1 b.1) blk off size w := by
  intro m os dk hs x y
  refine (cfW KB ko RB qo rb ro n cap x.1 y.1 (gA r x.1) (gA r y.1) _ ?_ ?_ x.2 y.2 ?_ ?_).mono ?_
  · rw [cell_sortWorld _ _ _ _ _ _ _ h1.1 h1.2]; exact hk
  · rw [cell_sortWorld _ _ _ _ _ _ _ h2.1 h2.2]; exact hc
  · rw [cell_sortWorld _ _ _ _ _ _ _ h3.1 h3.2]; exact hv _ x.2
  · rw [cell_sortWorld _ _ _ _ _ _ _ h3.1 h3.2]; exact hv _ y.2
  · rintro e w' ⟨he, q, os', hw⟩
    exact ⟨he, q, os', hw⟩

end Go.Proofs.Ytphfdbmbdaninaa.Ab
