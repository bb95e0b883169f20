/- Cables: the example of the chapter runs. -/
import Derived.Test.YtphfdbmbdaninaaM1
import Derived.Test.YtphfdbmbdaninaaT0
import Derived.Test.YtphfdbmbdaninaaKC
namespace Go.Proofs.Ytphfdbmbdaninaa.Ab
open Go Go.RowKit Go.Proofs
set_option linter.unusedSimpArgs false
set_option linter.unusedVariables false
attribute [local irreducible] Awp wpO thenQ blockQ bodyQ ACalls stepA

abbrev iv (n : Int) : AV := .val (.int .i64 n)
abbrev bv (b : Bool) : AV := .val (.bool b)

/-- which slots are own blocks -/
def ownT : Nat → List Nat
  | 29 => [4]
  | 34 => [8]
  | 67 => [0]
  | 68 => [7]
  | 69 => [3, 5]
  | 70 => [5, 6, 7]
  | 71 => [4]
  | 75 => [3]
  | 77 => [5, 6]
  | 86 => [7]
  | 88 => [1]
  | 110 => [2]
  | _ => []
def ownF (k : FuncId) (s : Nat) : Bool := (ownT k).contains s

theorem fine_ok (H : Hp) : CallsTo Try.prog 18 [] H (bv true) H := closed_call (by kernel_rfl) srtX_ok ownF 3000 (by kernel_rfl) H

end Go.Proofs.Ytphfdbmbdaninaa.Ab
