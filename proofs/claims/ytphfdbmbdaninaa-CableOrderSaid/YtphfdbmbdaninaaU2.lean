/- Cables: the law CableBranch. -/
import Derived.Test.YtphfdbmbdaninaaU1
import Derived.Test.YtphfdbmbdaninaaWU
import Derived.Test.YtphfdbmbdaninaaWS
import Derived.Test.YtphfdbmbdaninaaWH
import Derived.Test.YtphfdbmbdaninaaWJ
import Derived.Test.YtphfdbmbdaninaaWO
namespace Go.Proofs.Ytphfdbmbdaninaa.Ab
open Go Go.RowKit Go.Proofs
set_option linter.unusedSimpArgs false
set_option linter.unusedVariables false
attribute [local irreducible] Awp wpO thenQ blockQ bodyQ ACalls stepA

theorem wf8s {v : List Int} (h : ∀ x ∈ v, (Lit.int .u8 x).wf = true) {i : Nat} {x : Int} (hx : v[i]? = some x) : 0 ≤ x ∧ x ≤ 255 := wf8 (h x (List.mem_of_getElem? hx))

theorem find_pre {v : List Nat} {p : Nat → Bool} {j x : Nat} (h : (v.take j).find? p = some x) : v.find? p = some x := by
  have : v.find? p = (v.take j ++ v.drop j).find? p := by rw [List.take_append_drop]
  rw [this, List.find?_append, h]; rfl

theorem intsN_ok (H : Hp) (v : List Nat) (ex ex' : Bool) (hm : v.length ≤ maxLen) : CallsTo Try.prog 31 [.rsl (nats v) ex, .rsl (nats v) ex'] H (bv true) H := by
  rw [nats_ints]; exact ints_ok H _ ex ex' (by simpa using hm)

end Go.Proofs.Ytphfdbmbdaninaa.Ab
