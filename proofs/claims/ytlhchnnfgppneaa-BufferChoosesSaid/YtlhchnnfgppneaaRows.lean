/-
  No cell of these rows narrows 'for every input' (looked for: loops, veiled, ifaces, maps, wideKeys, modest, calm, conditions, laid).
  DERIVED. THE GIVEN ROWS OF THIS SEAT. 11 by the template 'for every input the law returns true; each argument reads behind the call as it read before'; 0 by the template 'total and deterministic' (their statements: YtlhchnnfgppneaaTotals.lean).
  GIVEN WITH THE SEED: the statements are not yours to turn. If you find one false, say at which input.
  Laid BY PROGRAM, IN A SANDBOX (cutbox-rows.mjs): the forced cells as the released guide's own fill.sh prints them over the translation 904c7513cdb2e522… (all of the seat's roots in one cut). By AI agents, Wed Nov 11 2026. No macro, syntax, notation, axiom, sorry.
-/
import Derived.Test.YtlhchnnfgppneaaChecked
import GoSem.Claim
import GoSem.ClaimJoined
import GoSem.ClaimMapViews
import Derived.JoinedTies
import Derived.KernelRfl
namespace Go.Proofs.Ytlhchnnfgppneaa
/- THE CELL 'sum', in the pinned program and in every row, IS THE sha256 OF THE DUMP (.gsa) THAT YtlhchnnfgppneaaProg.lean LOADS. Nothing in Lean hashes anything: it is a label: what it is worth is what the hold of that sum in a sandbox is worth. -/
noncomputable def Try.pinned : Pinned := { name := "ytlhchnnfgppneaa", sum := "904c7513cdb2e522e004ff19648f6a0e059ed0f98b0c661f713c45d640f2a234", checked := Try.checked }
namespace Rows
def none {H : Type} : Left H := { results := [], args := [] }

/-- 'isobathlaw08.BufferRecords': WHATEVER THE INPUT: true; the input reads as it did. -/
def bufferRecordsSpec : ChangeSpec := { name := "bufferRecords", fn := fun _ => fun
  | [d1, d2, d3] => { results := [.lit (.bool true)], args := [d1, d2, d3] }
  | _ => none }
def bufferRecordsRow : OpenClaim := { program := "ytlhchnnfgppneaa", sum := "904c7513cdb2e522e004ff19648f6a0e059ed0f98b0c661f713c45d640f2a234", func := "isobath/isobathlaw08.BufferRecords", spec := "bufferRecords", inPlace := ["slices.overlaps[int64]"], unfollowed := true, recurses := true, apart := false }
def BufferRecordsSaid : Prop := bufferRecordsRow.holds Try.pinned (OpenSpec.ofChange bufferRecordsSpec)

/-- ITS FALSE NEIGHBOUR: 'it returns false'. Refute it at one input. -/
def bufferRecordsWrong : ChangeSpec := { name := "bufferRecords", fn := fun _ => fun
  | [d1, d2, d3] => { results := [.lit (.bool false)], args := [d1, d2, d3] }
  | _ => none }
def BufferRecordsWrongFalsely : Prop := bufferRecordsRow.holds Try.pinned (OpenSpec.ofChange bufferRecordsWrong)

/-- 'isobathlaw08.BufferOrder': WHATEVER THE INPUT: true; the input reads as it did. -/
def bufferOrderSpec : ChangeSpec := { name := "bufferOrder", fn := fun _ => fun
  | [d1, d2, d3] => { results := [.lit (.bool true)], args := [d1, d2, d3] }
  | _ => none }
def bufferOrderRow : OpenClaim := { program := "ytlhchnnfgppneaa", sum := "904c7513cdb2e522e004ff19648f6a0e059ed0f98b0c661f713c45d640f2a234", func := "isobath/isobathlaw08.BufferOrder", spec := "bufferOrder", inPlace := ["slices.overlaps[int64]"], unfollowed := true, recurses := true, apart := false }
def BufferOrderSaid : Prop := bufferOrderRow.holds Try.pinned (OpenSpec.ofChange bufferOrderSpec)

/-- ITS FALSE NEIGHBOUR: 'it returns false'. Refute it at one input. -/
def bufferOrderWrong : ChangeSpec := { name := "bufferOrder", fn := fun _ => fun
  | [d1, d2, d3] => { results := [.lit (.bool false)], args := [d1, d2, d3] }
  | _ => none }
def BufferOrderWrongFalsely : Prop := bufferOrderRow.holds Try.pinned (OpenSpec.ofChange bufferOrderWrong)

/-- 'isobathlaw08.BufferKeeps': WHATEVER THE INPUT: true; the input reads as it did. -/
def bufferKeepsSpec : ChangeSpec := { name := "bufferKeeps", fn := fun _ => fun
  | [d1, d2] => { results := [.lit (.bool true)], args := [d1, d2] }
  | _ => none }
def bufferKeepsRow : OpenClaim := { program := "ytlhchnnfgppneaa", sum := "904c7513cdb2e522e004ff19648f6a0e059ed0f98b0c661f713c45d640f2a234", func := "isobath/isobathlaw08.BufferKeeps", spec := "bufferKeeps", inPlace := ["slices.overlaps[int64]"], unfollowed := true, recurses := true, apart := false }
def BufferKeepsSaid : Prop := bufferKeepsRow.holds Try.pinned (OpenSpec.ofChange bufferKeepsSpec)

/-- ITS FALSE NEIGHBOUR: 'it returns false'. Refute it at one input. -/
def bufferKeepsWrong : ChangeSpec := { name := "bufferKeeps", fn := fun _ => fun
  | [d1, d2] => { results := [.lit (.bool false)], args := [d1, d2] }
  | _ => none }
def BufferKeepsWrongFalsely : Prop := bufferKeepsRow.holds Try.pinned (OpenSpec.ofChange bufferKeepsWrong)

/-- 'isobathlaw08.BufferBursts': WHATEVER THE INPUT: true; the input reads as it did. -/
def bufferBurstsSpec : ChangeSpec := { name := "bufferBursts", fn := fun _ => fun
  | [d1, d2, d3] => { results := [.lit (.bool true)], args := [d1, d2, d3] }
  | _ => none }
def bufferBurstsRow : OpenClaim := { program := "ytlhchnnfgppneaa", sum := "904c7513cdb2e522e004ff19648f6a0e059ed0f98b0c661f713c45d640f2a234", func := "isobath/isobathlaw08.BufferBursts", spec := "bufferBursts", inPlace := ["slices.overlaps[int64]"], unfollowed := true, recurses := true, apart := false }
def BufferBurstsSaid : Prop := bufferBurstsRow.holds Try.pinned (OpenSpec.ofChange bufferBurstsSpec)

/-- ITS FALSE NEIGHBOUR: 'it returns false'. Refute it at one input. -/
def bufferBurstsWrong : ChangeSpec := { name := "bufferBursts", fn := fun _ => fun
  | [d1, d2, d3] => { results := [.lit (.bool false)], args := [d1, d2, d3] }
  | _ => none }
def BufferBurstsWrongFalsely : Prop := bufferBurstsRow.holds Try.pinned (OpenSpec.ofChange bufferBurstsWrong)

/-- 'isobathlaw08.BufferPlays': WHATEVER THE INPUT: true; the input reads as it did. -/
def bufferPlaysSpec : ChangeSpec := { name := "bufferPlays", fn := fun _ => fun
  | [d1, d2] => { results := [.lit (.bool true)], args := [d1, d2] }
  | _ => none }
def bufferPlaysRow : OpenClaim := { program := "ytlhchnnfgppneaa", sum := "904c7513cdb2e522e004ff19648f6a0e059ed0f98b0c661f713c45d640f2a234", func := "isobath/isobathlaw08.BufferPlays", spec := "bufferPlays", inPlace := ["slices.overlaps[int64]", "maps.clone"], unfollowed := true, recurses := true, apart := false }
def BufferPlaysSaid : Prop := bufferPlaysRow.holds Try.pinned (OpenSpec.ofChange bufferPlaysSpec)

/-- ITS FALSE NEIGHBOUR: 'it returns false'. Refute it at one input. -/
def bufferPlaysWrong : ChangeSpec := { name := "bufferPlays", fn := fun _ => fun
  | [d1, d2] => { results := [.lit (.bool false)], args := [d1, d2] }
  | _ => none }
def BufferPlaysWrongFalsely : Prop := bufferPlaysRow.holds Try.pinned (OpenSpec.ofChange bufferPlaysWrong)

/-- 'isobathlaw08.BufferTakes': WHATEVER THE INPUT: true; the input reads as it did. -/
def bufferTakesSpec : ChangeSpec := { name := "bufferTakes", fn := fun _ => fun
  | [d1, d2] => { results := [.lit (.bool true)], args := [d1, d2] }
  | _ => none }
def bufferTakesRow : OpenClaim := { program := "ytlhchnnfgppneaa", sum := "904c7513cdb2e522e004ff19648f6a0e059ed0f98b0c661f713c45d640f2a234", func := "isobath/isobathlaw08.BufferTakes", spec := "bufferTakes", inPlace := ["slices.overlaps[int64]", "maps.clone"], unfollowed := true, recurses := true, apart := false }
def BufferTakesSaid : Prop := bufferTakesRow.holds Try.pinned (OpenSpec.ofChange bufferTakesSpec)

/-- ITS FALSE NEIGHBOUR: 'it returns false'. Refute it at one input. -/
def bufferTakesWrong : ChangeSpec := { name := "bufferTakes", fn := fun _ => fun
  | [d1, d2] => { results := [.lit (.bool false)], args := [d1, d2] }
  | _ => none }
def BufferTakesWrongFalsely : Prop := bufferTakesRow.holds Try.pinned (OpenSpec.ofChange bufferTakesWrong)

/-- 'isobathlaw08.BufferChooses': WHATEVER THE INPUT: true; the input reads as it did. -/
def bufferChoosesSpec : ChangeSpec := { name := "bufferChooses", fn := fun _ => fun
  | [d1, d2] => { results := [.lit (.bool true)], args := [d1, d2] }
  | _ => none }
def bufferChoosesRow : OpenClaim := { program := "ytlhchnnfgppneaa", sum := "904c7513cdb2e522e004ff19648f6a0e059ed0f98b0c661f713c45d640f2a234", func := "isobath/isobathlaw08.BufferChooses", spec := "bufferChooses", inPlace := ["slices.overlaps[int64]"], unfollowed := true, recurses := true, apart := false }
def BufferChoosesSaid : Prop := bufferChoosesRow.holds Try.pinned (OpenSpec.ofChange bufferChoosesSpec)

/-- ITS FALSE NEIGHBOUR: 'it returns false'. Refute it at one input. -/
def bufferChoosesWrong : ChangeSpec := { name := "bufferChooses", fn := fun _ => fun
  | [d1, d2] => { results := [.lit (.bool false)], args := [d1, d2] }
  | _ => none }
def BufferChoosesWrongFalsely : Prop := bufferChoosesRow.holds Try.pinned (OpenSpec.ofChange bufferChoosesWrong)

/-- 'isobathlaw08.BufferBest': WHATEVER THE INPUT: true; the input reads as it did. -/
def bufferBestSpec : ChangeSpec := { name := "bufferBest", fn := fun _ => fun
  | [d1, d2, d3, d4] => { results := [.lit (.bool true)], args := [d1, d2, d3, d4] }
  | _ => none }
def bufferBestRow : OpenClaim := { program := "ytlhchnnfgppneaa", sum := "904c7513cdb2e522e004ff19648f6a0e059ed0f98b0c661f713c45d640f2a234", func := "isobath/isobathlaw08.BufferBest", spec := "bufferBest", inPlace := ["slices.overlaps[int64]"], unfollowed := true, recurses := true, apart := false }
def BufferBestSaid : Prop := bufferBestRow.holds Try.pinned (OpenSpec.ofChange bufferBestSpec)

/-- ITS FALSE NEIGHBOUR: 'it returns false'. Refute it at one input. -/
def bufferBestWrong : ChangeSpec := { name := "bufferBest", fn := fun _ => fun
  | [d1, d2, d3, d4] => { results := [.lit (.bool false)], args := [d1, d2, d3, d4] }
  | _ => none }
def BufferBestWrongFalsely : Prop := bufferBestRow.holds Try.pinned (OpenSpec.ofChange bufferBestWrong)

/-- 'isobathlaw08.BufferAcked': WHATEVER THE INPUT: true; the input reads as it did. -/
def bufferAckedSpec : ChangeSpec := { name := "bufferAcked", fn := fun _ => fun
  | [d1, d2] => { results := [.lit (.bool true)], args := [d1, d2] }
  | _ => none }
def bufferAckedRow : OpenClaim := { program := "ytlhchnnfgppneaa", sum := "904c7513cdb2e522e004ff19648f6a0e059ed0f98b0c661f713c45d640f2a234", func := "isobath/isobathlaw08.BufferAcked", spec := "bufferAcked", inPlace := ["slices.overlaps[int64]"], unfollowed := true, recurses := true, apart := false }
def BufferAckedSaid : Prop := bufferAckedRow.holds Try.pinned (OpenSpec.ofChange bufferAckedSpec)

/-- ITS FALSE NEIGHBOUR: 'it returns false'. Refute it at one input. -/
def bufferAckedWrong : ChangeSpec := { name := "bufferAcked", fn := fun _ => fun
  | [d1, d2] => { results := [.lit (.bool false)], args := [d1, d2] }
  | _ => none }
def BufferAckedWrongFalsely : Prop := bufferAckedRow.holds Try.pinned (OpenSpec.ofChange bufferAckedWrong)

/-- 'isobathlaw08.BufferOnce': WHATEVER THE INPUT: true; the input reads as it did. -/
def bufferOnceSpec : ChangeSpec := { name := "bufferOnce", fn := fun _ => fun
  | [d1, d2] => { results := [.lit (.bool true)], args := [d1, d2] }
  | _ => none }
def bufferOnceRow : OpenClaim := { program := "ytlhchnnfgppneaa", sum := "904c7513cdb2e522e004ff19648f6a0e059ed0f98b0c661f713c45d640f2a234", func := "isobath/isobathlaw08.BufferOnce", spec := "bufferOnce", inPlace := ["slices.overlaps[int64]"], unfollowed := true, recurses := true, apart := false }
def BufferOnceSaid : Prop := bufferOnceRow.holds Try.pinned (OpenSpec.ofChange bufferOnceSpec)

/-- ITS FALSE NEIGHBOUR: 'it returns false'. Refute it at one input. -/
def bufferOnceWrong : ChangeSpec := { name := "bufferOnce", fn := fun _ => fun
  | [d1, d2] => { results := [.lit (.bool false)], args := [d1, d2] }
  | _ => none }
def BufferOnceWrongFalsely : Prop := bufferOnceRow.holds Try.pinned (OpenSpec.ofChange bufferOnceWrong)

/-- 'isobathlaw08.BufferNil': WHATEVER THE INPUT: true; the input reads as it did. -/
def bufferNilSpec : ChangeSpec := { name := "bufferNil", fn := fun _ => fun
  | [d1, d2] => { results := [.lit (.bool true)], args := [d1, d2] }
  | _ => none }
def bufferNilRow : OpenClaim := { program := "ytlhchnnfgppneaa", sum := "904c7513cdb2e522e004ff19648f6a0e059ed0f98b0c661f713c45d640f2a234", func := "isobath/isobathlaw08.BufferNil", spec := "bufferNil", inPlace := ["slices.overlaps[int64]", "maps.clone"], unfollowed := true, recurses := true, apart := false }
def BufferNilSaid : Prop := bufferNilRow.holds Try.pinned (OpenSpec.ofChange bufferNilSpec)

/-- ITS FALSE NEIGHBOUR: 'it returns false'. Refute it at one input. -/
def bufferNilWrong : ChangeSpec := { name := "bufferNil", fn := fun _ => fun
  | [d1, d2] => { results := [.lit (.bool false)], args := [d1, d2] }
  | _ => none }
def BufferNilWrongFalsely : Prop := bufferNilRow.holds Try.pinned (OpenSpec.ofChange bufferNilWrong)

/- THE SECOND FORM. 'bulk': how many values and letters a reading holds, each counted each time it is reached (what is shared counts as often as it is met; a slice's spare places count too). A statement '..UptoSaid' is the law's where the arguments, and the package variables that the reading takes, are together of bulk at most 1048576: NARROWER than '..Said'. Prove '..Said' where nothing that the law and all that it calls make is longer than what came in: it says more and counts as full. Else prove '..UptoSaid'. A law counts once. -/
mutual
def uptoBulk {H : Type} : DataW H → Nat
  | .lit (.string bytes) => bytes.length + 1
  | .lit _ => 1
  | .nil => 1
  | .ptr d => uptoBulk d + 1
  | .slice elems spare => uptoBulkAll elems + uptoBulkAll spare + 1
  | .agg parts => uptoBulkAll parts + 1
  | .iface _ d => uptoBulk d + 1
  | .map entries => uptoBulkEntries entries + 1
  | .held _ => 1
def uptoBulkAll {H : Type} : List (DataW H) → Nat
  | [] => 0
  | d :: r => uptoBulk d + uptoBulkAll r
def uptoBulkEntries {H : Type} : List (Lit × DataW H) → Nat
  | [] => 0
  | x :: r => uptoBulkEntry x + uptoBulkEntries r
def uptoBulkEntry {H : Type} : Lit × DataW H → Nat
  | (.string bytes, d) => bytes.length + uptoBulk d + 1
  | (_, d) => uptoBulk d + 1
 end
def uptoSmall : (H : Type) → List (DataW H) → Bool := fun _ ds => decide (uptoBulkAll ds ≤ 1048576)
def OpenSpec.upto (s : _root_.Go.ChangeSpec) : _root_.Go.OpenSpec := { _root_.Go.OpenSpec.ofChange s with cond := some uptoSmall }

/-- 'isobathlaw08.BufferRecords', WHERE WHAT IT READS IS OF BULK AT MOST 1048576: true; the input reads as it did. -/
def bufferRecordsUptoRow : OpenClaim := { program := "ytlhchnnfgppneaa", sum := "904c7513cdb2e522e004ff19648f6a0e059ed0f98b0c661f713c45d640f2a234", func := "isobath/isobathlaw08.BufferRecords", spec := "bufferRecords", inPlace := ["slices.overlaps[int64]"], unfollowed := true, recurses := true, apart := false, narrowed := true }
def BufferRecordsUptoSaid : Prop := bufferRecordsUptoRow.holds Try.pinned (OpenSpec.upto bufferRecordsSpec)

/-- 'isobathlaw08.BufferOrder', WHERE WHAT IT READS IS OF BULK AT MOST 1048576: true; the input reads as it did. -/
def bufferOrderUptoRow : OpenClaim := { program := "ytlhchnnfgppneaa", sum := "904c7513cdb2e522e004ff19648f6a0e059ed0f98b0c661f713c45d640f2a234", func := "isobath/isobathlaw08.BufferOrder", spec := "bufferOrder", inPlace := ["slices.overlaps[int64]"], unfollowed := true, recurses := true, apart := false, narrowed := true }
def BufferOrderUptoSaid : Prop := bufferOrderUptoRow.holds Try.pinned (OpenSpec.upto bufferOrderSpec)

/-- 'isobathlaw08.BufferKeeps', WHERE WHAT IT READS IS OF BULK AT MOST 1048576: true; the input reads as it did. -/
def bufferKeepsUptoRow : OpenClaim := { program := "ytlhchnnfgppneaa", sum := "904c7513cdb2e522e004ff19648f6a0e059ed0f98b0c661f713c45d640f2a234", func := "isobath/isobathlaw08.BufferKeeps", spec := "bufferKeeps", inPlace := ["slices.overlaps[int64]"], unfollowed := true, recurses := true, apart := false, narrowed := true }
def BufferKeepsUptoSaid : Prop := bufferKeepsUptoRow.holds Try.pinned (OpenSpec.upto bufferKeepsSpec)

/-- 'isobathlaw08.BufferBursts', WHERE WHAT IT READS IS OF BULK AT MOST 1048576: true; the input reads as it did. -/
def bufferBurstsUptoRow : OpenClaim := { program := "ytlhchnnfgppneaa", sum := "904c7513cdb2e522e004ff19648f6a0e059ed0f98b0c661f713c45d640f2a234", func := "isobath/isobathlaw08.BufferBursts", spec := "bufferBursts", inPlace := ["slices.overlaps[int64]"], unfollowed := true, recurses := true, apart := false, narrowed := true }
def BufferBurstsUptoSaid : Prop := bufferBurstsUptoRow.holds Try.pinned (OpenSpec.upto bufferBurstsSpec)

/-- 'isobathlaw08.BufferPlays', WHERE WHAT IT READS IS OF BULK AT MOST 1048576: true; the input reads as it did. -/
def bufferPlaysUptoRow : OpenClaim := { program := "ytlhchnnfgppneaa", sum := "904c7513cdb2e522e004ff19648f6a0e059ed0f98b0c661f713c45d640f2a234", func := "isobath/isobathlaw08.BufferPlays", spec := "bufferPlays", inPlace := ["slices.overlaps[int64]", "maps.clone"], unfollowed := true, recurses := true, apart := false, narrowed := true }
def BufferPlaysUptoSaid : Prop := bufferPlaysUptoRow.holds Try.pinned (OpenSpec.upto bufferPlaysSpec)

/-- 'isobathlaw08.BufferTakes', WHERE WHAT IT READS IS OF BULK AT MOST 1048576: true; the input reads as it did. -/
def bufferTakesUptoRow : OpenClaim := { program := "ytlhchnnfgppneaa", sum := "904c7513cdb2e522e004ff19648f6a0e059ed0f98b0c661f713c45d640f2a234", func := "isobath/isobathlaw08.BufferTakes", spec := "bufferTakes", inPlace := ["slices.overlaps[int64]", "maps.clone"], unfollowed := true, recurses := true, apart := false, narrowed := true }
def BufferTakesUptoSaid : Prop := bufferTakesUptoRow.holds Try.pinned (OpenSpec.upto bufferTakesSpec)

/-- 'isobathlaw08.BufferChooses', WHERE WHAT IT READS IS OF BULK AT MOST 1048576: true; the input reads as it did. -/
def bufferChoosesUptoRow : OpenClaim := { program := "ytlhchnnfgppneaa", sum := "904c7513cdb2e522e004ff19648f6a0e059ed0f98b0c661f713c45d640f2a234", func := "isobath/isobathlaw08.BufferChooses", spec := "bufferChooses", inPlace := ["slices.overlaps[int64]"], unfollowed := true, recurses := true, apart := false, narrowed := true }
def BufferChoosesUptoSaid : Prop := bufferChoosesUptoRow.holds Try.pinned (OpenSpec.upto bufferChoosesSpec)

/-- 'isobathlaw08.BufferBest', WHERE WHAT IT READS IS OF BULK AT MOST 1048576: true; the input reads as it did. -/
def bufferBestUptoRow : OpenClaim := { program := "ytlhchnnfgppneaa", sum := "904c7513cdb2e522e004ff19648f6a0e059ed0f98b0c661f713c45d640f2a234", func := "isobath/isobathlaw08.BufferBest", spec := "bufferBest", inPlace := ["slices.overlaps[int64]"], unfollowed := true, recurses := true, apart := false, narrowed := true }
def BufferBestUptoSaid : Prop := bufferBestUptoRow.holds Try.pinned (OpenSpec.upto bufferBestSpec)

/-- 'isobathlaw08.BufferAcked', WHERE WHAT IT READS IS OF BULK AT MOST 1048576: true; the input reads as it did. -/
def bufferAckedUptoRow : OpenClaim := { program := "ytlhchnnfgppneaa", sum := "904c7513cdb2e522e004ff19648f6a0e059ed0f98b0c661f713c45d640f2a234", func := "isobath/isobathlaw08.BufferAcked", spec := "bufferAcked", inPlace := ["slices.overlaps[int64]"], unfollowed := true, recurses := true, apart := false, narrowed := true }
def BufferAckedUptoSaid : Prop := bufferAckedUptoRow.holds Try.pinned (OpenSpec.upto bufferAckedSpec)

/-- 'isobathlaw08.BufferOnce', WHERE WHAT IT READS IS OF BULK AT MOST 1048576: true; the input reads as it did. -/
def bufferOnceUptoRow : OpenClaim := { program := "ytlhchnnfgppneaa", sum := "904c7513cdb2e522e004ff19648f6a0e059ed0f98b0c661f713c45d640f2a234", func := "isobath/isobathlaw08.BufferOnce", spec := "bufferOnce", inPlace := ["slices.overlaps[int64]"], unfollowed := true, recurses := true, apart := false, narrowed := true }
def BufferOnceUptoSaid : Prop := bufferOnceUptoRow.holds Try.pinned (OpenSpec.upto bufferOnceSpec)

/-- 'isobathlaw08.BufferNil', WHERE WHAT IT READS IS OF BULK AT MOST 1048576: true; the input reads as it did. -/
def bufferNilUptoRow : OpenClaim := { program := "ytlhchnnfgppneaa", sum := "904c7513cdb2e522e004ff19648f6a0e059ed0f98b0c661f713c45d640f2a234", func := "isobath/isobathlaw08.BufferNil", spec := "bufferNil", inPlace := ["slices.overlaps[int64]", "maps.clone"], unfollowed := true, recurses := true, apart := false, narrowed := true }
def BufferNilUptoSaid : Prop := bufferNilUptoRow.holds Try.pinned (OpenSpec.upto bufferNilSpec)

end Rows
end Go.Proofs.Ytlhchnnfgppneaa
