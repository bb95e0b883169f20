/-
  No cell of these rows narrows 'for every input' (looked for: loops, veiled, ifaces, maps, wideKeys, modest, calm, conditions, laid).
  DERIVED. THE GIVEN ROWS OF THIS SEAT. 9 by the template 'for every input the law returns true; each argument reads behind the call as it read before'; 0 by the template 'total and deterministic' (their statements: YtehagceghnjamaaTotals.lean).
  GIVEN WITH THE SEED: the statements are not yours to turn. If you find one false, say at which input.
  Laid BY PROGRAM, IN A SANDBOX (cutbox-rows.mjs): the forced cells as the released guide's own fill.sh prints them over the translation ef8aecd9e04ae5c7… (all of the seat's roots in one cut). By AI agents, Wed Nov 11 2026. No macro, syntax, notation, axiom, sorry.
-/
import Derived.Test.YtehagceghnjamaaChecked
import GoSem.Claim
import GoSem.ClaimJoined
import GoSem.ClaimMapViews
import Derived.JoinedTies
import Derived.KernelRfl
namespace Go.Proofs.Ytehagceghnjamaa
/- THE CELL 'sum', in the pinned program and in every row, IS THE sha256 OF THE DUMP (.gsa) THAT YtehagceghnjamaaProg.lean LOADS. Nothing in Lean hashes anything: it is a label: what it is worth is what the hold of that sum in a sandbox is worth. -/
noncomputable def Try.pinned : Pinned := { name := "ytehagceghnjamaa", sum := "ef8aecd9e04ae5c7f36ce1f0462b59ecb4e5a0cc76cb82025df10c31df9aeea0", checked := Try.checked }
namespace Rows
def none {H : Type} : Left H := { results := [], args := [] }

/-- 'isobathlaw10.FieldTwo': WHATEVER THE INPUT: true; the input reads as it did. -/
def fieldTwoSpec : ChangeSpec := { name := "fieldTwo", fn := fun _ => fun
  | [d1, d2] => { results := [.lit (.bool true)], args := [d1, d2] }
  | _ => none }
def fieldTwoRow : OpenClaim := { program := "ytehagceghnjamaa", sum := "ef8aecd9e04ae5c7f36ce1f0462b59ecb4e5a0cc76cb82025df10c31df9aeea0", func := "isobath/isobathlaw10.FieldTwo", spec := "fieldTwo", unfollowed := true, recurses := true, apart := false }
def FieldTwoSaid : Prop := fieldTwoRow.holds Try.pinned (OpenSpec.ofChange fieldTwoSpec)

/-- ITS FALSE NEIGHBOUR: 'it returns false'. Refute it at one input. -/
def fieldTwoWrong : ChangeSpec := { name := "fieldTwo", fn := fun _ => fun
  | [d1, d2] => { results := [.lit (.bool false)], args := [d1, d2] }
  | _ => none }
def FieldTwoWrongFalsely : Prop := fieldTwoRow.holds Try.pinned (OpenSpec.ofChange fieldTwoWrong)

/-- 'isobathlaw10.FieldPromised': WHATEVER THE INPUT: true; the input reads as it did. -/
def fieldPromisedSpec : ChangeSpec := { name := "fieldPromised", fn := fun _ => fun
  | [d1, d2, d3, d4, d5] => { results := [.lit (.bool true)], args := [d1, d2, d3, d4, d5] }
  | _ => none }
def fieldPromisedRow : OpenClaim := { program := "ytehagceghnjamaa", sum := "ef8aecd9e04ae5c7f36ce1f0462b59ecb4e5a0cc76cb82025df10c31df9aeea0", func := "isobath/isobathlaw10.FieldPromised", spec := "fieldPromised", unfollowed := true, recurses := true, apart := false }
def FieldPromisedSaid : Prop := fieldPromisedRow.holds Try.pinned (OpenSpec.ofChange fieldPromisedSpec)

/-- ITS FALSE NEIGHBOUR: 'it returns false'. Refute it at one input. -/
def fieldPromisedWrong : ChangeSpec := { name := "fieldPromised", fn := fun _ => fun
  | [d1, d2, d3, d4, d5] => { results := [.lit (.bool false)], args := [d1, d2, d3, d4, d5] }
  | _ => none }
def FieldPromisedWrongFalsely : Prop := fieldPromisedRow.holds Try.pinned (OpenSpec.ofChange fieldPromisedWrong)

/-- 'isobathlaw10.FieldExact': WHATEVER THE INPUT: true; the input reads as it did. -/
def fieldExactSpec : ChangeSpec := { name := "fieldExact", fn := fun _ => fun
  | [d1, d2, d3] => { results := [.lit (.bool true)], args := [d1, d2, d3] }
  | _ => none }
def fieldExactRow : OpenClaim := { program := "ytehagceghnjamaa", sum := "ef8aecd9e04ae5c7f36ce1f0462b59ecb4e5a0cc76cb82025df10c31df9aeea0", func := "isobath/isobathlaw10.FieldExact", spec := "fieldExact", unfollowed := true, recurses := true, apart := false }
def FieldExactSaid : Prop := fieldExactRow.holds Try.pinned (OpenSpec.ofChange fieldExactSpec)

/-- ITS FALSE NEIGHBOUR: 'it returns false'. Refute it at one input. -/
def fieldExactWrong : ChangeSpec := { name := "fieldExact", fn := fun _ => fun
  | [d1, d2, d3] => { results := [.lit (.bool false)], args := [d1, d2, d3] }
  | _ => none }
def FieldExactWrongFalsely : Prop := fieldExactRow.holds Try.pinned (OpenSpec.ofChange fieldExactWrong)

/-- 'isobathlaw10.FieldNear': WHATEVER THE INPUT: true; the input reads as it did. -/
def fieldNearSpec : ChangeSpec := { name := "fieldNear", fn := fun _ => fun
  | [d1, d2] => { results := [.lit (.bool true)], args := [d1, d2] }
  | _ => none }
def fieldNearRow : OpenClaim := { program := "ytehagceghnjamaa", sum := "ef8aecd9e04ae5c7f36ce1f0462b59ecb4e5a0cc76cb82025df10c31df9aeea0", func := "isobath/isobathlaw10.FieldNear", spec := "fieldNear", unfollowed := true, recurses := true, apart := false }
def FieldNearSaid : Prop := fieldNearRow.holds Try.pinned (OpenSpec.ofChange fieldNearSpec)

/-- ITS FALSE NEIGHBOUR: 'it returns false'. Refute it at one input. -/
def fieldNearWrong : ChangeSpec := { name := "fieldNear", fn := fun _ => fun
  | [d1, d2] => { results := [.lit (.bool false)], args := [d1, d2] }
  | _ => none }
def FieldNearWrongFalsely : Prop := fieldNearRow.holds Try.pinned (OpenSpec.ofChange fieldNearWrong)

/-- 'isobathlaw10.FieldChecks': WHATEVER THE INPUT: true; the input reads as it did. -/
def fieldChecksSpec : ChangeSpec := { name := "fieldChecks", fn := fun _ => fun
  | [d1, d2, d3, d4, d5] => { results := [.lit (.bool true)], args := [d1, d2, d3, d4, d5] }
  | _ => none }
def fieldChecksRow : OpenClaim := { program := "ytehagceghnjamaa", sum := "ef8aecd9e04ae5c7f36ce1f0462b59ecb4e5a0cc76cb82025df10c31df9aeea0", func := "isobath/isobathlaw10.FieldChecks", spec := "fieldChecks", unfollowed := true, recurses := true, apart := false }
def FieldChecksSaid : Prop := fieldChecksRow.holds Try.pinned (OpenSpec.ofChange fieldChecksSpec)

/-- ITS FALSE NEIGHBOUR: 'it returns false'. Refute it at one input. -/
def fieldChecksWrong : ChangeSpec := { name := "fieldChecks", fn := fun _ => fun
  | [d1, d2, d3, d4, d5] => { results := [.lit (.bool false)], args := [d1, d2, d3, d4, d5] }
  | _ => none }
def FieldChecksWrongFalsely : Prop := fieldChecksRow.holds Try.pinned (OpenSpec.ofChange fieldChecksWrong)

/-- 'isobathlaw10.FieldBudgets': WHATEVER THE INPUT: true; the input reads as it did. -/
def fieldBudgetsSpec : ChangeSpec := { name := "fieldBudgets", fn := fun _ => fun
  | [d1, d2, d3, d4, d5, d6, d7] => { results := [.lit (.bool true)], args := [d1, d2, d3, d4, d5, d6, d7] }
  | _ => none }
def fieldBudgetsRow : OpenClaim := { program := "ytehagceghnjamaa", sum := "ef8aecd9e04ae5c7f36ce1f0462b59ecb4e5a0cc76cb82025df10c31df9aeea0", func := "isobath/isobathlaw10.FieldBudgets", spec := "fieldBudgets", unfollowed := true, recurses := true, apart := false }
def FieldBudgetsSaid : Prop := fieldBudgetsRow.holds Try.pinned (OpenSpec.ofChange fieldBudgetsSpec)

/-- ITS FALSE NEIGHBOUR: 'it returns false'. Refute it at one input. -/
def fieldBudgetsWrong : ChangeSpec := { name := "fieldBudgets", fn := fun _ => fun
  | [d1, d2, d3, d4, d5, d6, d7] => { results := [.lit (.bool false)], args := [d1, d2, d3, d4, d5, d6, d7] }
  | _ => none }
def FieldBudgetsWrongFalsely : Prop := fieldBudgetsRow.holds Try.pinned (OpenSpec.ofChange fieldBudgetsWrong)

/-- 'isobathlaw10.FieldMore': WHATEVER THE INPUT: true; the input reads as it did. -/
def fieldMoreSpec : ChangeSpec := { name := "fieldMore", fn := fun _ => fun
  | [d1, d2, d3, d4] => { results := [.lit (.bool true)], args := [d1, d2, d3, d4] }
  | _ => none }
def fieldMoreRow : OpenClaim := { program := "ytehagceghnjamaa", sum := "ef8aecd9e04ae5c7f36ce1f0462b59ecb4e5a0cc76cb82025df10c31df9aeea0", func := "isobath/isobathlaw10.FieldMore", spec := "fieldMore", unfollowed := true, recurses := true, apart := false }
def FieldMoreSaid : Prop := fieldMoreRow.holds Try.pinned (OpenSpec.ofChange fieldMoreSpec)

/-- ITS FALSE NEIGHBOUR: 'it returns false'. Refute it at one input. -/
def fieldMoreWrong : ChangeSpec := { name := "fieldMore", fn := fun _ => fun
  | [d1, d2, d3, d4] => { results := [.lit (.bool false)], args := [d1, d2, d3, d4] }
  | _ => none }
def FieldMoreWrongFalsely : Prop := fieldMoreRow.holds Try.pinned (OpenSpec.ofChange fieldMoreWrong)

/-- 'isobathlaw10.FieldSets': WHATEVER THE INPUT: true; the input reads as it did. -/
def fieldSetsSpec : ChangeSpec := { name := "fieldSets", fn := fun _ => fun
  | [d1, d2, d3, d4, d5, d6] => { results := [.lit (.bool true)], args := [d1, d2, d3, d4, d5, d6] }
  | _ => none }
def fieldSetsRow : OpenClaim := { program := "ytehagceghnjamaa", sum := "ef8aecd9e04ae5c7f36ce1f0462b59ecb4e5a0cc76cb82025df10c31df9aeea0", func := "isobath/isobathlaw10.FieldSets", spec := "fieldSets", unfollowed := true, recurses := true, apart := false }
def FieldSetsSaid : Prop := fieldSetsRow.holds Try.pinned (OpenSpec.ofChange fieldSetsSpec)

/-- ITS FALSE NEIGHBOUR: 'it returns false'. Refute it at one input. -/
def fieldSetsWrong : ChangeSpec := { name := "fieldSets", fn := fun _ => fun
  | [d1, d2, d3, d4, d5, d6] => { results := [.lit (.bool false)], args := [d1, d2, d3, d4, d5, d6] }
  | _ => none }
def FieldSetsWrongFalsely : Prop := fieldSetsRow.holds Try.pinned (OpenSpec.ofChange fieldSetsWrong)

/-- 'isobathlaw10.FieldTruth': WHATEVER THE INPUT: true; the input reads as it did. -/
def fieldTruthSpec : ChangeSpec := { name := "fieldTruth", fn := fun _ => fun
  | [d1, d2, d3, d4, d5, d6, d7] => { results := [.lit (.bool true)], args := [d1, d2, d3, d4, d5, d6, d7] }
  | _ => none }
def fieldTruthRow : OpenClaim := { program := "ytehagceghnjamaa", sum := "ef8aecd9e04ae5c7f36ce1f0462b59ecb4e5a0cc76cb82025df10c31df9aeea0", func := "isobath/isobathlaw10.FieldTruth", spec := "fieldTruth", unfollowed := true, recurses := true, apart := false }
def FieldTruthSaid : Prop := fieldTruthRow.holds Try.pinned (OpenSpec.ofChange fieldTruthSpec)

/-- ITS FALSE NEIGHBOUR: 'it returns false'. Refute it at one input. -/
def fieldTruthWrong : ChangeSpec := { name := "fieldTruth", fn := fun _ => fun
  | [d1, d2, d3, d4, d5, d6, d7] => { results := [.lit (.bool false)], args := [d1, d2, d3, d4, d5, d6, d7] }
  | _ => none }
def FieldTruthWrongFalsely : Prop := fieldTruthRow.holds Try.pinned (OpenSpec.ofChange fieldTruthWrong)

/- THE SECOND FORM. 'bulk': how many values and letters a reading holds, each counted each time it is reached (what is shared counts as often as it is met; a slice's spare places count too). A statement '..UptoSaid' is the law's where the arguments, and the package variables that the reading takes, are together of bulk at most 1048576: NARROWER than '..Said'. Prove '..Said' where nothing that the law and all that it calls make is longer than what came in: it says more and counts as full. Else prove '..UptoSaid'. A law counts once. -/
mutual
def uptoBulk {H : Type} : DataW H → Nat
  | .lit (.string bytes) => bytes.length + 1
  | .lit _ => 1
  | .nil => 1
  | .ptr d => uptoBulk d + 1
  | .slice elems spare => uptoBulkAll elems + uptoBulkAll spare + 1
  | .agg parts => uptoBulkAll parts + 1
  | .iface _ d => uptoBulk d + 1
  | .map entries => uptoBulkEntries entries + 1
  | .held _ => 1
def uptoBulkAll {H : Type} : List (DataW H) → Nat
  | [] => 0
  | d :: r => uptoBulk d + uptoBulkAll r
def uptoBulkEntries {H : Type} : List (Lit × DataW H) → Nat
  | [] => 0
  | x :: r => uptoBulkEntry x + uptoBulkEntries r
def uptoBulkEntry {H : Type} : Lit × DataW H → Nat
  | (.string bytes, d) => bytes.length + uptoBulk d + 1
  | (_, d) => uptoBulk d + 1
 end
def uptoSmall : (H : Type) → List (DataW H) → Bool := fun _ ds => decide (uptoBulkAll ds ≤ 1048576)
def OpenSpec.upto (s : _root_.Go.ChangeSpec) : _root_.Go.OpenSpec := { _root_.Go.OpenSpec.ofChange s with cond := some uptoSmall }

/-- 'isobathlaw10.FieldTwo', WHERE WHAT IT READS IS OF BULK AT MOST 1048576: true; the input reads as it did. -/
def fieldTwoUptoRow : OpenClaim := { program := "ytehagceghnjamaa", sum := "ef8aecd9e04ae5c7f36ce1f0462b59ecb4e5a0cc76cb82025df10c31df9aeea0", func := "isobath/isobathlaw10.FieldTwo", spec := "fieldTwo", unfollowed := true, recurses := true, apart := false, narrowed := true }
def FieldTwoUptoSaid : Prop := fieldTwoUptoRow.holds Try.pinned (OpenSpec.upto fieldTwoSpec)

/-- 'isobathlaw10.FieldPromised', WHERE WHAT IT READS IS OF BULK AT MOST 1048576: true; the input reads as it did. -/
def fieldPromisedUptoRow : OpenClaim := { program := "ytehagceghnjamaa", sum := "ef8aecd9e04ae5c7f36ce1f0462b59ecb4e5a0cc76cb82025df10c31df9aeea0", func := "isobath/isobathlaw10.FieldPromised", spec := "fieldPromised", unfollowed := true, recurses := true, apart := false, narrowed := true }
def FieldPromisedUptoSaid : Prop := fieldPromisedUptoRow.holds Try.pinned (OpenSpec.upto fieldPromisedSpec)

/-- 'isobathlaw10.FieldExact', WHERE WHAT IT READS IS OF BULK AT MOST 1048576: true; the input reads as it did. -/
def fieldExactUptoRow : OpenClaim := { program := "ytehagceghnjamaa", sum := "ef8aecd9e04ae5c7f36ce1f0462b59ecb4e5a0cc76cb82025df10c31df9aeea0", func := "isobath/isobathlaw10.FieldExact", spec := "fieldExact", unfollowed := true, recurses := true, apart := false, narrowed := true }
def FieldExactUptoSaid : Prop := fieldExactUptoRow.holds Try.pinned (OpenSpec.upto fieldExactSpec)

/-- 'isobathlaw10.FieldNear', WHERE WHAT IT READS IS OF BULK AT MOST 1048576: true; the input reads as it did. -/
def fieldNearUptoRow : OpenClaim := { program := "ytehagceghnjamaa", sum := "ef8aecd9e04ae5c7f36ce1f0462b59ecb4e5a0cc76cb82025df10c31df9aeea0", func := "isobath/isobathlaw10.FieldNear", spec := "fieldNear", unfollowed := true, recurses := true, apart := false, narrowed := true }
def FieldNearUptoSaid : Prop := fieldNearUptoRow.holds Try.pinned (OpenSpec.upto fieldNearSpec)

/-- 'isobathlaw10.FieldChecks', WHERE WHAT IT READS IS OF BULK AT MOST 1048576: true; the input reads as it did. -/
def fieldChecksUptoRow : OpenClaim := { program := "ytehagceghnjamaa", sum := "ef8aecd9e04ae5c7f36ce1f0462b59ecb4e5a0cc76cb82025df10c31df9aeea0", func := "isobath/isobathlaw10.FieldChecks", spec := "fieldChecks", unfollowed := true, recurses := true, apart := false, narrowed := true }
def FieldChecksUptoSaid : Prop := fieldChecksUptoRow.holds Try.pinned (OpenSpec.upto fieldChecksSpec)

/-- 'isobathlaw10.FieldBudgets', WHERE WHAT IT READS IS OF BULK AT MOST 1048576: true; the input reads as it did. -/
def fieldBudgetsUptoRow : OpenClaim := { program := "ytehagceghnjamaa", sum := "ef8aecd9e04ae5c7f36ce1f0462b59ecb4e5a0cc76cb82025df10c31df9aeea0", func := "isobath/isobathlaw10.FieldBudgets", spec := "fieldBudgets", unfollowed := true, recurses := true, apart := false, narrowed := true }
def FieldBudgetsUptoSaid : Prop := fieldBudgetsUptoRow.holds Try.pinned (OpenSpec.upto fieldBudgetsSpec)

/-- 'isobathlaw10.FieldMore', WHERE WHAT IT READS IS OF BULK AT MOST 1048576: true; the input reads as it did. -/
def fieldMoreUptoRow : OpenClaim := { program := "ytehagceghnjamaa", sum := "ef8aecd9e04ae5c7f36ce1f0462b59ecb4e5a0cc76cb82025df10c31df9aeea0", func := "isobath/isobathlaw10.FieldMore", spec := "fieldMore", unfollowed := true, recurses := true, apart := false, narrowed := true }
def FieldMoreUptoSaid : Prop := fieldMoreUptoRow.holds Try.pinned (OpenSpec.upto fieldMoreSpec)

/-- 'isobathlaw10.FieldSets', WHERE WHAT IT READS IS OF BULK AT MOST 1048576: true; the input reads as it did. -/
def fieldSetsUptoRow : OpenClaim := { program := "ytehagceghnjamaa", sum := "ef8aecd9e04ae5c7f36ce1f0462b59ecb4e5a0cc76cb82025df10c31df9aeea0", func := "isobath/isobathlaw10.FieldSets", spec := "fieldSets", unfollowed := true, recurses := true, apart := false, narrowed := true }
def FieldSetsUptoSaid : Prop := fieldSetsUptoRow.holds Try.pinned (OpenSpec.upto fieldSetsSpec)

/-- 'isobathlaw10.FieldTruth', WHERE WHAT IT READS IS OF BULK AT MOST 1048576: true; the input reads as it did. -/
def fieldTruthUptoRow : OpenClaim := { program := "ytehagceghnjamaa", sum := "ef8aecd9e04ae5c7f36ce1f0462b59ecb4e5a0cc76cb82025df10c31df9aeea0", func := "isobath/isobathlaw10.FieldTruth", spec := "fieldTruth", unfollowed := true, recurses := true, apart := false, narrowed := true }
def FieldTruthUptoSaid : Prop := fieldTruthUptoRow.holds Try.pinned (OpenSpec.upto fieldTruthSpec)

end Rows
end Go.Proofs.Ytehagceghnjamaa
