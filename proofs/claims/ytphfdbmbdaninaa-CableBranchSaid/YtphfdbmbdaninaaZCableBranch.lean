/- If a cable is coordinated with a margin of at least 1, the first breaker of the path of the fault that is not stuck opens and just the subtree of its node is lost, and if all of them are stuck everything is; for all arguments that the statement's guards let in. -/
import Derived.Test.YtphfdbmbdaninaaRows
import Derived.Test.YtphfdbmbdaninaaU2
import Derived.WalkKit
import Derived.ProofKit
import Derived.JoinedOf
import Derived.OpenShut
import Derived.ChangeOld
import Derived.Below
import Derived.SizedLaws
namespace Go.Proofs.Ytphfdbmbdaninaa.cableBranch
open Go Go.ChangeShapes Go.WideShapes Go.RowKit Go.Proofs Go.Proofs.Ytphfdbmbdaninaa.Ab
set_option linter.unusedVariables false
theorem own : ownKnob Try.prog.godebug = none := by kernel_rfl
theorem laidOut : laidOutB Try.prog = true := by kernel_rfl
set_option maxRecDepth 100000 in
theorem lifted (os : Os) (started : os.Started) (H : Type) (enc : TypeId × Value → H) :
    ReturnsInHanded {} Try.checked os 10 .any (Rows.cableBranchSpec.pre6 enc Try.prog Try.f10 Rows.cableBranchRow.domain false) (Rows.cableBranchSpec.post enc Try.prog Try.f10 false true false false) := by
  refine returnsInHanded_of_change_sized (C := Try.checked) own started (by kernel_rfl) Try.func10
    (ChangeSpec.witness6 (enc := enc) (C := Try.checked) false ⟨#[], #[.agg #[.int .i64 0, .int .i64 0, .slice none 0 0], .int .u8 0, .int .u8 0, .slice none 0 0], []⟩ 8 (by kernel_rfl) (by kernel_rfl) (by kernel_rfl) (by kernel_rfl)) ?_
  intro W base args ds gs before hval hW hcnd hsz _
  refine contract_of (sh := sh10) (rt := 4) laidOut (by kernel_rfl) (by kernel_rfl) (by kernel_rfl) Try.underlying4 rfl (fun ds hl => ?_) law10 hval hW hsz
  rw [Try.params10] at hl
  match ds, hl with
  | [d1, d2, d3, d4], _ => rfl
theorem over : Rows.cableBranchRow.holds Try.pinned (OpenSpec.ofChange Rows.cableBranchSpec) :=
  OpenClaim.holds_of_wide 10 Try.f10 rfl rfl rfl rfl rfl rfl rfl ⟨rfl, rfl, rfl, rfl, rfl⟩ rfl rfl rfl rfl rfl (by kernel_rfl) Try.func10 (by kernel_rfl)
    (of_decide_eq_true (by kernel_rfl)) (by unfold Func.isWrapper; first | (rw [if_pos (by decide +kernel)]; kernel_rfl) | (rw [if_neg (by decide +kernel)]; exact ⟨rfl, rfl⟩))
    (fun os started H enc _ => lifted os started H enc)
theorem proved : Rows.CableBranchSaid := over
end Go.Proofs.Ytphfdbmbdaninaa.cableBranch
namespace Go.Proofs.Ytphfdbmbdaninaa
/-- The row, under a short name, for the claim. -/
theorem cableBranch_holds : Rows.CableBranchSaid := cableBranch.proved
end Go.Proofs.Ytphfdbmbdaninaa
