/- Sorting nodes by their ranks: what comes out, plain. -/
import Derived.Test.YtphfdbmbdaninaaM4
namespace Go.Proofs.Ytphfdbmbdaninaa.Ab
open Go Go.RowKit Go.Proofs Go.Lib Go.Shelf Go.Sort

theorem finRange_val (n : Nat) : (List.finRange n).map (fun a : Fin n => a.1) = List.range n := by
  refine List.ext_getElem (by simp) fun i h1 h2 => ?_
  simp

theorem mergeFin (r : List Int) (n : Nat) : ((List.finRange n).mergeSort fun x y => !(ltOf (fun a b : Fin n => Cp.cfR r a.1 b.1)) y x).map (fun a : Fin n => a.1) = ordL r n := by
  have hs := bef_swo r n
  refine ordL_uniq ?_ ?_
  · rw [← finRange_val]
    exact (List.mergeSort_perm _ _).map _
  · rw [List.pairwise_map]
    have h1 := List.pairwise_mergeSort (le := fun x y : Fin n => !(ltOf (fun a b : Fin n => Cp.cfR r a.1 b.1)) y x)
      (fun a b c h1 h2 => by
        simp only [Bool.not_eq_true'] at *
        exact hs.ntrans _ _ _ h2 h1)
      (fun a b => by
        simp only [Bool.or_eq_true, Bool.not_eq_true']
        cases h : ltOf (fun a b : Fin n => Cp.cfR r a.1 b.1) b a with
        | false => exact .inl rfl
        | true =>
          right
          cases k : ltOf (fun a b : Fin n => Cp.cfR r a.1 b.1) a b with
          | false => rfl
          | true => have := hs.trans _ _ _ h k; rw [hs.irrefl] at this; cases this) (List.finRange n)
    have h2 : ((List.finRange n).mergeSort fun x y => !(ltOf (fun a b : Fin n => Cp.cfR r a.1 b.1)) y x).Nodup := (List.mergeSort_perm _ _).nodup_iff.2 (List.nodup_finRange n)
    refine (h1.and h2).imp ?_
    rintro a b ⟨p, q⟩
    simp only [Bool.not_eq_true', ltOf, decide_eq_false_iff_not] at p
    rw [cfR_neg] at p
    exact Decidable.byContradiction fun k => q (Fin.ext (Bef.total k p))

end Go.Proofs.Ytphfdbmbdaninaa.Ab
