/-
  No cell of these rows narrows 'for every input' (looked for: loops, veiled, ifaces, maps, wideKeys, modest, calm, conditions, laid).
  DERIVED. THE GIVEN ROWS OF THIS SEAT. 14 by the template 'for every input the law returns true; each argument reads behind the call as it read before'; 0 by the template 'total and deterministic' (their statements: YtphfdbmbdaninaaTotals.lean).
  GIVEN WITH THE SEED: the statements are not yours to turn. If you find one false, say at which input.
  Laid BY PROGRAM, IN A SANDBOX (cutbox-rows.mjs): the forced cells as the released guide's own fill.sh prints them over the translation c353629ca8ad6589… (all of the seat's roots in one cut). By AI agents, Wed Nov 11 2026. No macro, syntax, notation, axiom, sorry.
-/
import Derived.Test.YtphfdbmbdaninaaChecked
import GoSem.Claim
import GoSem.ClaimJoined
import GoSem.ClaimMapViews
import Derived.JoinedTies
import Derived.KernelRfl
namespace Go.Proofs.Ytphfdbmbdaninaa
/- THE CELL 'sum', in the pinned program and in every row, IS THE sha256 OF THE DUMP (.gsa) THAT YtphfdbmbdaninaaProg.lean LOADS. Nothing in Lean hashes anything: it is a label: what it is worth is what the hold of that sum in a sandbox is worth. -/
noncomputable def Try.pinned : Pinned := { name := "ytphfdbmbdaninaa", sum := "c353629ca8ad65891ae94ca50dd5522aed7f5232feaf97b7a4789be534912577", checked := Try.checked }
namespace Rows
def none {H : Type} : Left H := { results := [], args := [] }

/-- 'isobathlaw04.CableEvery': WHATEVER THE INPUT: true; the input reads as it did. -/
def cableEverySpec : ChangeSpec := { name := "cableEvery", fn := fun _ => fun
  | [d1, d2, d3, d4] => { results := [.lit (.bool true)], args := [d1, d2, d3, d4] }
  | _ => none }
def cableEveryRow : OpenClaim := { program := "ytphfdbmbdaninaa", sum := "c353629ca8ad65891ae94ca50dd5522aed7f5232feaf97b7a4789be534912577", func := "isobath/isobathlaw04.CableEvery", spec := "cableEvery", unfollowed := true, recurses := true, apart := false }
def CableEverySaid : Prop := cableEveryRow.holds Try.pinned (OpenSpec.ofChange cableEverySpec)

/-- ITS FALSE NEIGHBOUR: 'it returns false'. Refute it at one input. -/
def cableEveryWrong : ChangeSpec := { name := "cableEvery", fn := fun _ => fun
  | [d1, d2, d3, d4] => { results := [.lit (.bool false)], args := [d1, d2, d3, d4] }
  | _ => none }
def CableEveryWrongFalsely : Prop := cableEveryRow.holds Try.pinned (OpenSpec.ofChange cableEveryWrong)

/-- 'isobathlaw04.CableKirchhoff': WHATEVER THE INPUT: true; the input reads as it did. -/
def cableKirchhoffSpec : ChangeSpec := { name := "cableKirchhoff", fn := fun _ => fun
  | [d] => { results := [.lit (.bool true)], args := [d] }
  | _ => none }
def cableKirchhoffRow : OpenClaim := { program := "ytphfdbmbdaninaa", sum := "c353629ca8ad65891ae94ca50dd5522aed7f5232feaf97b7a4789be534912577", func := "isobath/isobathlaw04.CableKirchhoff", spec := "cableKirchhoff", unfollowed := true, recurses := true, apart := false }
def CableKirchhoffSaid : Prop := cableKirchhoffRow.holds Try.pinned (OpenSpec.ofChange cableKirchhoffSpec)

/-- ITS FALSE NEIGHBOUR: 'it returns false'. Refute it at one input. -/
def cableKirchhoffWrong : ChangeSpec := { name := "cableKirchhoff", fn := fun _ => fun
  | [d] => { results := [.lit (.bool false)], args := [d] }
  | _ => none }
def CableKirchhoffWrongFalsely : Prop := cableKirchhoffRow.holds Try.pinned (OpenSpec.ofChange cableKirchhoffWrong)

/-- 'isobathlaw04.CableTrees': WHATEVER THE INPUT: true; the input reads as it did. -/
def cableTreesSpec : ChangeSpec := { name := "cableTrees", fn := fun _ => fun
  | [d1, d2] => { results := [.lit (.bool true)], args := [d1, d2] }
  | _ => none }
def cableTreesRow : OpenClaim := { program := "ytphfdbmbdaninaa", sum := "c353629ca8ad65891ae94ca50dd5522aed7f5232feaf97b7a4789be534912577", func := "isobath/isobathlaw04.CableTrees", spec := "cableTrees", unfollowed := true, recurses := true, apart := false }
def CableTreesSaid : Prop := cableTreesRow.holds Try.pinned (OpenSpec.ofChange cableTreesSpec)

/-- ITS FALSE NEIGHBOUR: 'it returns false'. Refute it at one input. -/
def cableTreesWrong : ChangeSpec := { name := "cableTrees", fn := fun _ => fun
  | [d1, d2] => { results := [.lit (.bool false)], args := [d1, d2] }
  | _ => none }
def CableTreesWrongFalsely : Prop := cableTreesRow.holds Try.pinned (OpenSpec.ofChange cableTreesWrong)

/-- 'isobathlaw04.CableOrder': WHATEVER THE INPUT: true; the input reads as it did. -/
def cableOrderSpec : ChangeSpec := { name := "cableOrder", fn := fun _ => fun
  | [d1, d2, d3] => { results := [.lit (.bool true)], args := [d1, d2, d3] }
  | _ => none }
def cableOrderRow : OpenClaim := { program := "ytphfdbmbdaninaa", sum := "c353629ca8ad65891ae94ca50dd5522aed7f5232feaf97b7a4789be534912577", func := "isobath/isobathlaw04.CableOrder", spec := "cableOrder", unfollowed := true, recurses := true, apart := false }
def CableOrderSaid : Prop := cableOrderRow.holds Try.pinned (OpenSpec.ofChange cableOrderSpec)

/-- ITS FALSE NEIGHBOUR: 'it returns false'. Refute it at one input. -/
def cableOrderWrong : ChangeSpec := { name := "cableOrder", fn := fun _ => fun
  | [d1, d2, d3] => { results := [.lit (.bool false)], args := [d1, d2, d3] }
  | _ => none }
def CableOrderWrongFalsely : Prop := cableOrderRow.holds Try.pinned (OpenSpec.ofChange cableOrderWrong)

/-- 'isobathlaw04.CableBreakers': WHATEVER THE INPUT: true; the input reads as it did. -/
def cableBreakersSpec : ChangeSpec := { name := "cableBreakers", fn := fun _ => fun
  | [d1, d2, d3, d4, d5] => { results := [.lit (.bool true)], args := [d1, d2, d3, d4, d5] }
  | _ => none }
def cableBreakersRow : OpenClaim := { program := "ytphfdbmbdaninaa", sum := "c353629ca8ad65891ae94ca50dd5522aed7f5232feaf97b7a4789be534912577", func := "isobath/isobathlaw04.CableBreakers", spec := "cableBreakers", unfollowed := true, recurses := true, apart := false }
def CableBreakersSaid : Prop := cableBreakersRow.holds Try.pinned (OpenSpec.ofChange cableBreakersSpec)

/-- ITS FALSE NEIGHBOUR: 'it returns false'. Refute it at one input. -/
def cableBreakersWrong : ChangeSpec := { name := "cableBreakers", fn := fun _ => fun
  | [d1, d2, d3, d4, d5] => { results := [.lit (.bool false)], args := [d1, d2, d3, d4, d5] }
  | _ => none }
def CableBreakersWrongFalsely : Prop := cableBreakersRow.holds Try.pinned (OpenSpec.ofChange cableBreakersWrong)

/-- 'isobathlaw04.CableCurrents': WHATEVER THE INPUT: true; the input reads as it did. -/
def cableCurrentsSpec : ChangeSpec := { name := "cableCurrents", fn := fun _ => fun
  | [d] => { results := [.lit (.bool true)], args := [d] }
  | _ => none }
def cableCurrentsRow : OpenClaim := { program := "ytphfdbmbdaninaa", sum := "c353629ca8ad65891ae94ca50dd5522aed7f5232feaf97b7a4789be534912577", func := "isobath/isobathlaw04.CableCurrents", spec := "cableCurrents", unfollowed := true, recurses := true, apart := false }
def CableCurrentsSaid : Prop := cableCurrentsRow.holds Try.pinned (OpenSpec.ofChange cableCurrentsSpec)

/-- ITS FALSE NEIGHBOUR: 'it returns false'. Refute it at one input. -/
def cableCurrentsWrong : ChangeSpec := { name := "cableCurrents", fn := fun _ => fun
  | [d] => { results := [.lit (.bool false)], args := [d] }
  | _ => none }
def CableCurrentsWrongFalsely : Prop := cableCurrentsRow.holds Try.pinned (OpenSpec.ofChange cableCurrentsWrong)

/-- 'isobathlaw04.CableNarrower': WHATEVER THE INPUT: true; the input reads as it did. -/
def cableNarrowerSpec : ChangeSpec := { name := "cableNarrower", fn := fun _ => fun
  | [d1, d2] => { results := [.lit (.bool true)], args := [d1, d2] }
  | _ => none }
def cableNarrowerRow : OpenClaim := { program := "ytphfdbmbdaninaa", sum := "c353629ca8ad65891ae94ca50dd5522aed7f5232feaf97b7a4789be534912577", func := "isobath/isobathlaw04.CableNarrower", spec := "cableNarrower", unfollowed := true, recurses := true, apart := false }
def CableNarrowerSaid : Prop := cableNarrowerRow.holds Try.pinned (OpenSpec.ofChange cableNarrowerSpec)

/-- ITS FALSE NEIGHBOUR: 'it returns false'. Refute it at one input. -/
def cableNarrowerWrong : ChangeSpec := { name := "cableNarrower", fn := fun _ => fun
  | [d1, d2] => { results := [.lit (.bool false)], args := [d1, d2] }
  | _ => none }
def CableNarrowerWrongFalsely : Prop := cableNarrowerRow.holds Try.pinned (OpenSpec.ofChange cableNarrowerWrong)

/-- 'isobathlaw04.CableBranch': WHATEVER THE INPUT: true; the input reads as it did. -/
def cableBranchSpec : ChangeSpec := { name := "cableBranch", fn := fun _ => fun
  | [d1, d2, d3, d4] => { results := [.lit (.bool true)], args := [d1, d2, d3, d4] }
  | _ => none }
def cableBranchRow : OpenClaim := { program := "ytphfdbmbdaninaa", sum := "c353629ca8ad65891ae94ca50dd5522aed7f5232feaf97b7a4789be534912577", func := "isobath/isobathlaw04.CableBranch", spec := "cableBranch", unfollowed := true, recurses := true, apart := false }
def CableBranchSaid : Prop := cableBranchRow.holds Try.pinned (OpenSpec.ofChange cableBranchSpec)

/-- ITS FALSE NEIGHBOUR: 'it returns false'. Refute it at one input. -/
def cableBranchWrong : ChangeSpec := { name := "cableBranch", fn := fun _ => fun
  | [d1, d2, d3, d4] => { results := [.lit (.bool false)], args := [d1, d2, d3, d4] }
  | _ => none }
def CableBranchWrongFalsely : Prop := cableBranchRow.holds Try.pinned (OpenSpec.ofChange cableBranchWrong)

/-- 'isobathlaw04.CableTight': WHATEVER THE INPUT: true; the input reads as it did. -/
def cableTightSpec : ChangeSpec := { name := "cableTight", fn := fun _ => fun
  | [d] => { results := [.lit (.bool true)], args := [d] }
  | _ => none }
def cableTightRow : OpenClaim := { program := "ytphfdbmbdaninaa", sum := "c353629ca8ad65891ae94ca50dd5522aed7f5232feaf97b7a4789be534912577", func := "isobath/isobathlaw04.CableTight", spec := "cableTight", unfollowed := true, recurses := true, apart := false }
def CableTightSaid : Prop := cableTightRow.holds Try.pinned (OpenSpec.ofChange cableTightSpec)

/-- ITS FALSE NEIGHBOUR: 'it returns false'. Refute it at one input. -/
def cableTightWrong : ChangeSpec := { name := "cableTight", fn := fun _ => fun
  | [d] => { results := [.lit (.bool false)], args := [d] }
  | _ => none }
def CableTightWrongFalsely : Prop := cableTightRow.holds Try.pinned (OpenSpec.ofChange cableTightWrong)

/-- 'isobathlaw04.CableFaults': WHATEVER THE INPUT: true; the input reads as it did. -/
def cableFaultsSpec : ChangeSpec := { name := "cableFaults", fn := fun _ => fun
  | [d1, d2, d3, d4, d5, d6] => { results := [.lit (.bool true)], args := [d1, d2, d3, d4, d5, d6] }
  | _ => none }
def cableFaultsRow : OpenClaim := { program := "ytphfdbmbdaninaa", sum := "c353629ca8ad65891ae94ca50dd5522aed7f5232feaf97b7a4789be534912577", func := "isobath/isobathlaw04.CableFaults", spec := "cableFaults", unfollowed := true, recurses := true, apart := false }
def CableFaultsSaid : Prop := cableFaultsRow.holds Try.pinned (OpenSpec.ofChange cableFaultsSpec)

/-- ITS FALSE NEIGHBOUR: 'it returns false'. Refute it at one input. -/
def cableFaultsWrong : ChangeSpec := { name := "cableFaults", fn := fun _ => fun
  | [d1, d2, d3, d4, d5, d6] => { results := [.lit (.bool false)], args := [d1, d2, d3, d4, d5, d6] }
  | _ => none }
def CableFaultsWrongFalsely : Prop := cableFaultsRow.holds Try.pinned (OpenSpec.ofChange cableFaultsWrong)

/-- 'isobathlaw04.CableLocated': WHATEVER THE INPUT: true; the input reads as it did. -/
def cableLocatedSpec : ChangeSpec := { name := "cableLocated", fn := fun _ => fun
  | [d1, d2, d3, d4, d5] => { results := [.lit (.bool true)], args := [d1, d2, d3, d4, d5] }
  | _ => none }
def cableLocatedRow : OpenClaim := { program := "ytphfdbmbdaninaa", sum := "c353629ca8ad65891ae94ca50dd5522aed7f5232feaf97b7a4789be534912577", func := "isobath/isobathlaw04.CableLocated", spec := "cableLocated", unfollowed := true, recurses := true, apart := false }
def CableLocatedSaid : Prop := cableLocatedRow.holds Try.pinned (OpenSpec.ofChange cableLocatedSpec)

/-- ITS FALSE NEIGHBOUR: 'it returns false'. Refute it at one input. -/
def cableLocatedWrong : ChangeSpec := { name := "cableLocated", fn := fun _ => fun
  | [d1, d2, d3, d4, d5] => { results := [.lit (.bool false)], args := [d1, d2, d3, d4, d5] }
  | _ => none }
def CableLocatedWrongFalsely : Prop := cableLocatedRow.holds Try.pinned (OpenSpec.ofChange cableLocatedWrong)

/-- 'isobathlaw04.CableLater': WHATEVER THE INPUT: true; the input reads as it did. -/
def cableLaterSpec : ChangeSpec := { name := "cableLater", fn := fun _ => fun
  | [d1, d2, d3, d4, d5, d6] => { results := [.lit (.bool true)], args := [d1, d2, d3, d4, d5, d6] }
  | _ => none }
def cableLaterRow : OpenClaim := { program := "ytphfdbmbdaninaa", sum := "c353629ca8ad65891ae94ca50dd5522aed7f5232feaf97b7a4789be534912577", func := "isobath/isobathlaw04.CableLater", spec := "cableLater", unfollowed := true, recurses := true, apart := false }
def CableLaterSaid : Prop := cableLaterRow.holds Try.pinned (OpenSpec.ofChange cableLaterSpec)

/-- ITS FALSE NEIGHBOUR: 'it returns false'. Refute it at one input. -/
def cableLaterWrong : ChangeSpec := { name := "cableLater", fn := fun _ => fun
  | [d1, d2, d3, d4, d5, d6] => { results := [.lit (.bool false)], args := [d1, d2, d3, d4, d5, d6] }
  | _ => none }
def CableLaterWrongFalsely : Prop := cableLaterRow.holds Try.pinned (OpenSpec.ofChange cableLaterWrong)

/-- 'isobathlaw04.CableShares': WHATEVER THE INPUT: true; the input reads as it did. -/
def cableSharesSpec : ChangeSpec := { name := "cableShares", fn := fun _ => fun
  | [d1, d2, d3, d4] => { results := [.lit (.bool true)], args := [d1, d2, d3, d4] }
  | _ => none }
def cableSharesRow : OpenClaim := { program := "ytphfdbmbdaninaa", sum := "c353629ca8ad65891ae94ca50dd5522aed7f5232feaf97b7a4789be534912577", func := "isobath/isobathlaw04.CableShares", spec := "cableShares", unfollowed := true, recurses := true, apart := false }
def CableSharesSaid : Prop := cableSharesRow.holds Try.pinned (OpenSpec.ofChange cableSharesSpec)

/-- ITS FALSE NEIGHBOUR: 'it returns false'. Refute it at one input. -/
def cableSharesWrong : ChangeSpec := { name := "cableShares", fn := fun _ => fun
  | [d1, d2, d3, d4] => { results := [.lit (.bool false)], args := [d1, d2, d3, d4] }
  | _ => none }
def CableSharesWrongFalsely : Prop := cableSharesRow.holds Try.pinned (OpenSpec.ofChange cableSharesWrong)

/-- 'isobathlaw04.CableGranted': WHATEVER THE INPUT: true; the input reads as it did. -/
def cableGrantedSpec : ChangeSpec := { name := "cableGranted", fn := fun _ => fun
  | [d1, d2, d3] => { results := [.lit (.bool true)], args := [d1, d2, d3] }
  | _ => none }
def cableGrantedRow : OpenClaim := { program := "ytphfdbmbdaninaa", sum := "c353629ca8ad65891ae94ca50dd5522aed7f5232feaf97b7a4789be534912577", func := "isobath/isobathlaw04.CableGranted", spec := "cableGranted", unfollowed := true, recurses := true, apart := false }
def CableGrantedSaid : Prop := cableGrantedRow.holds Try.pinned (OpenSpec.ofChange cableGrantedSpec)

/-- ITS FALSE NEIGHBOUR: 'it returns false'. Refute it at one input. -/
def cableGrantedWrong : ChangeSpec := { name := "cableGranted", fn := fun _ => fun
  | [d1, d2, d3] => { results := [.lit (.bool false)], args := [d1, d2, d3] }
  | _ => none }
def CableGrantedWrongFalsely : Prop := cableGrantedRow.holds Try.pinned (OpenSpec.ofChange cableGrantedWrong)

/- THE SECOND FORM. 'bulk': how many values and letters a reading holds, each counted each time it is reached (what is shared counts as often as it is met; a slice's spare places count too). A statement '..UptoSaid' is the law's where the arguments, and the package variables that the reading takes, are together of bulk at most 1048576: NARROWER than '..Said'. Prove '..Said' where nothing that the law and all that it calls make is longer than what came in: it says more and counts as full. Else prove '..UptoSaid'. A law counts once. -/
mutual
def uptoBulk {H : Type} : DataW H → Nat
  | .lit (.string bytes) => bytes.length + 1
  | .lit _ => 1
  | .nil => 1
  | .ptr d => uptoBulk d + 1
  | .slice elems spare => uptoBulkAll elems + uptoBulkAll spare + 1
  | .agg parts => uptoBulkAll parts + 1
  | .iface _ d => uptoBulk d + 1
  | .map entries => uptoBulkEntries entries + 1
  | .held _ => 1
def uptoBulkAll {H : Type} : List (DataW H) → Nat
  | [] => 0
  | d :: r => uptoBulk d + uptoBulkAll r
def uptoBulkEntries {H : Type} : List (Lit × DataW H) → Nat
  | [] => 0
  | x :: r => uptoBulkEntry x + uptoBulkEntries r
def uptoBulkEntry {H : Type} : Lit × DataW H → Nat
  | (.string bytes, d) => bytes.length + uptoBulk d + 1
  | (_, d) => uptoBulk d + 1
 end
def uptoSmall : (H : Type) → List (DataW H) → Bool := fun _ ds => decide (uptoBulkAll ds ≤ 1048576)
def OpenSpec.upto (s : _root_.Go.ChangeSpec) : _root_.Go.OpenSpec := { _root_.Go.OpenSpec.ofChange s with cond := some uptoSmall }

/-- 'isobathlaw04.CableEvery', WHERE WHAT IT READS IS OF BULK AT MOST 1048576: true; the input reads as it did. -/
def cableEveryUptoRow : OpenClaim := { program := "ytphfdbmbdaninaa", sum := "c353629ca8ad65891ae94ca50dd5522aed7f5232feaf97b7a4789be534912577", func := "isobath/isobathlaw04.CableEvery", spec := "cableEvery", unfollowed := true, recurses := true, apart := false, narrowed := true }
def CableEveryUptoSaid : Prop := cableEveryUptoRow.holds Try.pinned (OpenSpec.upto cableEverySpec)

/-- 'isobathlaw04.CableKirchhoff', WHERE WHAT IT READS IS OF BULK AT MOST 1048576: true; the input reads as it did. -/
def cableKirchhoffUptoRow : OpenClaim := { program := "ytphfdbmbdaninaa", sum := "c353629ca8ad65891ae94ca50dd5522aed7f5232feaf97b7a4789be534912577", func := "isobath/isobathlaw04.CableKirchhoff", spec := "cableKirchhoff", unfollowed := true, recurses := true, apart := false, narrowed := true }
def CableKirchhoffUptoSaid : Prop := cableKirchhoffUptoRow.holds Try.pinned (OpenSpec.upto cableKirchhoffSpec)

/-- 'isobathlaw04.CableTrees', WHERE WHAT IT READS IS OF BULK AT MOST 1048576: true; the input reads as it did. -/
def cableTreesUptoRow : OpenClaim := { program := "ytphfdbmbdaninaa", sum := "c353629ca8ad65891ae94ca50dd5522aed7f5232feaf97b7a4789be534912577", func := "isobath/isobathlaw04.CableTrees", spec := "cableTrees", unfollowed := true, recurses := true, apart := false, narrowed := true }
def CableTreesUptoSaid : Prop := cableTreesUptoRow.holds Try.pinned (OpenSpec.upto cableTreesSpec)

/-- 'isobathlaw04.CableOrder', WHERE WHAT IT READS IS OF BULK AT MOST 1048576: true; the input reads as it did. -/
def cableOrderUptoRow : OpenClaim := { program := "ytphfdbmbdaninaa", sum := "c353629ca8ad65891ae94ca50dd5522aed7f5232feaf97b7a4789be534912577", func := "isobath/isobathlaw04.CableOrder", spec := "cableOrder", unfollowed := true, recurses := true, apart := false, narrowed := true }
def CableOrderUptoSaid : Prop := cableOrderUptoRow.holds Try.pinned (OpenSpec.upto cableOrderSpec)

/-- 'isobathlaw04.CableBreakers', WHERE WHAT IT READS IS OF BULK AT MOST 1048576: true; the input reads as it did. -/
def cableBreakersUptoRow : OpenClaim := { program := "ytphfdbmbdaninaa", sum := "c353629ca8ad65891ae94ca50dd5522aed7f5232feaf97b7a4789be534912577", func := "isobath/isobathlaw04.CableBreakers", spec := "cableBreakers", unfollowed := true, recurses := true, apart := false, narrowed := true }
def CableBreakersUptoSaid : Prop := cableBreakersUptoRow.holds Try.pinned (OpenSpec.upto cableBreakersSpec)

/-- 'isobathlaw04.CableCurrents', WHERE WHAT IT READS IS OF BULK AT MOST 1048576: true; the input reads as it did. -/
def cableCurrentsUptoRow : OpenClaim := { program := "ytphfdbmbdaninaa", sum := "c353629ca8ad65891ae94ca50dd5522aed7f5232feaf97b7a4789be534912577", func := "isobath/isobathlaw04.CableCurrents", spec := "cableCurrents", unfollowed := true, recurses := true, apart := false, narrowed := true }
def CableCurrentsUptoSaid : Prop := cableCurrentsUptoRow.holds Try.pinned (OpenSpec.upto cableCurrentsSpec)

/-- 'isobathlaw04.CableNarrower', WHERE WHAT IT READS IS OF BULK AT MOST 1048576: true; the input reads as it did. -/
def cableNarrowerUptoRow : OpenClaim := { program := "ytphfdbmbdaninaa", sum := "c353629ca8ad65891ae94ca50dd5522aed7f5232feaf97b7a4789be534912577", func := "isobath/isobathlaw04.CableNarrower", spec := "cableNarrower", unfollowed := true, recurses := true, apart := false, narrowed := true }
def CableNarrowerUptoSaid : Prop := cableNarrowerUptoRow.holds Try.pinned (OpenSpec.upto cableNarrowerSpec)

/-- 'isobathlaw04.CableBranch', WHERE WHAT IT READS IS OF BULK AT MOST 1048576: true; the input reads as it did. -/
def cableBranchUptoRow : OpenClaim := { program := "ytphfdbmbdaninaa", sum := "c353629ca8ad65891ae94ca50dd5522aed7f5232feaf97b7a4789be534912577", func := "isobath/isobathlaw04.CableBranch", spec := "cableBranch", unfollowed := true, recurses := true, apart := false, narrowed := true }
def CableBranchUptoSaid : Prop := cableBranchUptoRow.holds Try.pinned (OpenSpec.upto cableBranchSpec)

/-- 'isobathlaw04.CableTight', WHERE WHAT IT READS IS OF BULK AT MOST 1048576: true; the input reads as it did. -/
def cableTightUptoRow : OpenClaim := { program := "ytphfdbmbdaninaa", sum := "c353629ca8ad65891ae94ca50dd5522aed7f5232feaf97b7a4789be534912577", func := "isobath/isobathlaw04.CableTight", spec := "cableTight", unfollowed := true, recurses := true, apart := false, narrowed := true }
def CableTightUptoSaid : Prop := cableTightUptoRow.holds Try.pinned (OpenSpec.upto cableTightSpec)

/-- 'isobathlaw04.CableFaults', WHERE WHAT IT READS IS OF BULK AT MOST 1048576: true; the input reads as it did. -/
def cableFaultsUptoRow : OpenClaim := { program := "ytphfdbmbdaninaa", sum := "c353629ca8ad65891ae94ca50dd5522aed7f5232feaf97b7a4789be534912577", func := "isobath/isobathlaw04.CableFaults", spec := "cableFaults", unfollowed := true, recurses := true, apart := false, narrowed := true }
def CableFaultsUptoSaid : Prop := cableFaultsUptoRow.holds Try.pinned (OpenSpec.upto cableFaultsSpec)

/-- 'isobathlaw04.CableLocated', WHERE WHAT IT READS IS OF BULK AT MOST 1048576: true; the input reads as it did. -/
def cableLocatedUptoRow : OpenClaim := { program := "ytphfdbmbdaninaa", sum := "c353629ca8ad65891ae94ca50dd5522aed7f5232feaf97b7a4789be534912577", func := "isobath/isobathlaw04.CableLocated", spec := "cableLocated", unfollowed := true, recurses := true, apart := false, narrowed := true }
def CableLocatedUptoSaid : Prop := cableLocatedUptoRow.holds Try.pinned (OpenSpec.upto cableLocatedSpec)

/-- 'isobathlaw04.CableLater', WHERE WHAT IT READS IS OF BULK AT MOST 1048576: true; the input reads as it did. -/
def cableLaterUptoRow : OpenClaim := { program := "ytphfdbmbdaninaa", sum := "c353629ca8ad65891ae94ca50dd5522aed7f5232feaf97b7a4789be534912577", func := "isobath/isobathlaw04.CableLater", spec := "cableLater", unfollowed := true, recurses := true, apart := false, narrowed := true }
def CableLaterUptoSaid : Prop := cableLaterUptoRow.holds Try.pinned (OpenSpec.upto cableLaterSpec)

/-- 'isobathlaw04.CableShares', WHERE WHAT IT READS IS OF BULK AT MOST 1048576: true; the input reads as it did. -/
def cableSharesUptoRow : OpenClaim := { program := "ytphfdbmbdaninaa", sum := "c353629ca8ad65891ae94ca50dd5522aed7f5232feaf97b7a4789be534912577", func := "isobath/isobathlaw04.CableShares", spec := "cableShares", unfollowed := true, recurses := true, apart := false, narrowed := true }
def CableSharesUptoSaid : Prop := cableSharesUptoRow.holds Try.pinned (OpenSpec.upto cableSharesSpec)

/-- 'isobathlaw04.CableGranted', WHERE WHAT IT READS IS OF BULK AT MOST 1048576: true; the input reads as it did. -/
def cableGrantedUptoRow : OpenClaim := { program := "ytphfdbmbdaninaa", sum := "c353629ca8ad65891ae94ca50dd5522aed7f5232feaf97b7a4789be534912577", func := "isobath/isobathlaw04.CableGranted", spec := "cableGranted", unfollowed := true, recurses := true, apart := false, narrowed := true }
def CableGrantedUptoSaid : Prop := cableGrantedUptoRow.holds Try.pinned (OpenSpec.upto cableGrantedSpec)

end Rows
end Go.Proofs.Ytphfdbmbdaninaa
