/- Cables: where a list has something first. -/
import Derived.Test.YtphfdbmbdaninaaW0
import Derived.Test.YtphfdbmbdaninaaV1
namespace Go.Proofs.Ytphfdbmbdaninaa.Ab
open Go Go.RowKit Go.Proofs
set_option linter.unusedSimpArgs false
set_option linter.unusedVariables false
attribute [local irreducible] Awp wpO thenQ blockQ bodyQ ACalls stepA

/-- where a list has something first -/
def idxP (p : Int → Bool) : Nat → List Int → Int
  | _, [] => -1
  | i, a :: l => if p a = true then i else idxP p (i + 1) l
theorem idxP_drop {p : Int → Bool} {v : List Int} {i : Nat} {a : Int} (h : v[i]? = some a) : idxP p i (v.drop i) = if p a = true then (i : Int) else idxP p (i + 1) (v.drop (i + 1)) := by
  have hlt := (List.getElem?_eq_some_iff.1 h).1
  rw [List.drop_eq_getElem_cons hlt, (List.getElem?_eq_some_iff.1 h).2]
  rfl
theorem idxP_ge {p : Int → Bool} : ∀ (v : List Int) (i : Nat), (0 ≤ idxP p i v) ↔ v.any p = true
  | [], i => by simp [idxP]
  | a :: l, i => by
    unfold idxP
    by_cases h : p a = true
    · rw [if_pos h]; simp [h]
    · rw [if_neg h, idxP_ge l (i + 1)]; simp [h]

/-- a function that answers of a number -/
def Asks (H : Hp) (f : FuncId) (cap : List AV) (p : Int → Bool) : Prop := ∀ (x : Int), CallsTo Try.prog f ([iv x] ++ cap) H (bv (p x)) H

end Go.Proofs.Ytphfdbmbdaninaa.Ab
