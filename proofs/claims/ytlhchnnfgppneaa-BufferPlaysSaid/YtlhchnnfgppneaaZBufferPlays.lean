/- BufferPlays: for all capacities and acts a buffer does what the document says (at most 30 acts). -/
import Derived.Test.YtlhchnnfgppneaaRows
import Derived.Test.YtlhchnnfgppneaaYS
import Derived.WalkKit
import Derived.ProofKit
import Derived.JoinedOf
import Derived.OpenShut
import Derived.ChangeOld
import Derived.Below
import Derived.SizedLaws
namespace Go.Proofs.Ytlhchnnfgppneaa.bufferPlays
open Go Go.ChangeShapes Go.WideShapes Go.RowKit Go.Proofs Go.Proofs.Ytlhchnnfgppneaa.Ab
set_option linter.unusedVariables false
theorem own : ownKnob Try.prog.godebug = none := by kernel_rfl
theorem laidOut : laidOutB Try.prog = true := by kernel_rfl
set_option maxRecDepth 100000 in
theorem lifted (os : Os) (started : os.Started) (H : Type) (enc : TypeId × Value → H) :
    ReturnsInHanded {} Try.checked os 7 .any (Rows.bufferPlaysSpec.pre6 enc Try.prog Try.f7 Rows.bufferPlaysRow.domain false) (Rows.bufferPlaysSpec.post enc Try.prog Try.f7 false true false false) := by
  refine returnsInHanded_of_change_sized (C := Try.checked) own started (by kernel_rfl) Try.func7
    (ChangeSpec.witness6 (enc := enc) (C := Try.checked) false ⟨#[], #[.int .i64 0, .slice none 0 0], []⟩ 8 (by kernel_rfl) (by kernel_rfl) (by kernel_rfl) (by kernel_rfl)) ?_
  intro W base args ds gs before hval hW hcnd hsz _
  refine contract_of (sh := sh7) (rt := 4) laidOut (by kernel_rfl) (by kernel_rfl) (by kernel_rfl) Try.underlying4 rfl (fun ds hl => ?_) law7 hval hW hsz
  rw [Try.params7] at hl
  match ds, hl with
  | [d1, d2], _ => rfl
theorem over : Rows.bufferPlaysRow.holds Try.pinned (OpenSpec.ofChange Rows.bufferPlaysSpec) :=
  OpenClaim.holds_of_wide 7 Try.f7 rfl rfl rfl rfl rfl rfl rfl ⟨rfl, rfl, rfl, rfl, rfl⟩ rfl rfl rfl rfl rfl (by kernel_rfl) Try.func7 (by kernel_rfl)
    (of_decide_eq_true (by kernel_rfl)) (by unfold Func.isWrapper; first | (rw [if_pos (by decide +kernel)]; kernel_rfl) | (rw [if_neg (by decide +kernel)]; exact ⟨rfl, rfl⟩))
    (fun os started H enc _ => lifted os started H enc)
theorem proved : Rows.BufferPlaysSaid := over
end Go.Proofs.Ytlhchnnfgppneaa.bufferPlays
namespace Go.Proofs.Ytlhchnnfgppneaa
/-- The row, under a short name, for the claim. -/
theorem bufferPlays_holds : Rows.BufferPlaysSaid := bufferPlays.proved
end Go.Proofs.Ytlhchnnfgppneaa
