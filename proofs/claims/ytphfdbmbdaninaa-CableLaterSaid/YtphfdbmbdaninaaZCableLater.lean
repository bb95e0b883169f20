/- For all cables that are valid and of at most 20 nodes, and all small requests and ranks: what a node is granted does not depend on the requests of nodes with lesser ranks, and with greater limits the node that is taken first is granted no less. -/
import Derived.Test.YtphfdbmbdaninaaRows
import Derived.Test.YtphfdbmbdaninaaUV
import Derived.WalkKit
import Derived.ProofKit
import Derived.JoinedOf
import Derived.OpenShut
import Derived.ChangeOld
import Derived.Below
import Derived.SizedLaws
namespace Go.Proofs.Ytphfdbmbdaninaa.cableLater
open Go Go.ChangeShapes Go.WideShapes Go.RowKit Go.Proofs Go.Proofs.Ytphfdbmbdaninaa.Ab
set_option linter.unusedVariables false
theorem own : ownKnob Try.prog.godebug = none := by kernel_rfl
theorem laidOut : laidOutB Try.prog = true := by kernel_rfl
set_option maxRecDepth 100000 in
theorem lifted (os : Os) (started : os.Started) (H : Type) (enc : TypeId × Value → H) :
    ReturnsInHanded {} Try.checked os 14 .any (Rows.cableLaterSpec.pre6 enc Try.prog Try.f14 Rows.cableLaterRow.domain false) (Rows.cableLaterSpec.post enc Try.prog Try.f14 false true false false) := by
  refine returnsInHanded_of_change_sized (C := Try.checked) own started (by kernel_rfl) Try.func14
    (ChangeSpec.witness6 (enc := enc) (C := Try.checked) false ⟨#[], #[.agg #[.int .i64 0, .int .i64 0, .slice none 0 0], .slice none 0 0, .slice none 0 0, .slice none 0 0, .int .u8 0, .int .u16 0], []⟩ 8 (by kernel_rfl) (by kernel_rfl) (by kernel_rfl) (by kernel_rfl)) ?_
  intro W base args ds gs before hval hW hcnd hsz _
  refine contract_of (sh := sh14) (rt := 4) laidOut (by kernel_rfl) (by kernel_rfl) (by kernel_rfl) Try.underlying4 rfl (fun ds hl => ?_) law14 hval hW hsz
  rw [Try.params14] at hl
  match ds, hl with
  | [d1, d2, d3, d4, d5, d6], _ => rfl
theorem over : Rows.cableLaterRow.holds Try.pinned (OpenSpec.ofChange Rows.cableLaterSpec) :=
  OpenClaim.holds_of_wide 14 Try.f14 rfl rfl rfl rfl rfl rfl rfl ⟨rfl, rfl, rfl, rfl, rfl⟩ rfl rfl rfl rfl rfl (by kernel_rfl) Try.func14 (by kernel_rfl)
    (of_decide_eq_true (by kernel_rfl)) (by unfold Func.isWrapper; first | (rw [if_pos (by decide +kernel)]; kernel_rfl) | (rw [if_neg (by decide +kernel)]; exact ⟨rfl, rfl⟩))
    (fun os started H enc _ => lifted os started H enc)
theorem proved : Rows.CableLaterSaid := over
end Go.Proofs.Ytphfdbmbdaninaa.cableLater
namespace Go.Proofs.Ytphfdbmbdaninaa
/-- The row, under a short name, for the claim. -/
theorem cableLater_holds : Rows.CableLaterSaid := cableLater.proved
end Go.Proofs.Ytphfdbmbdaninaa
