/- For all measurements, cables, lengths and places, Distance, Locate and Segments return what the reference returns; for all arguments that the statement's guards let in. -/
import Derived.Test.YtphfdbmbdaninaaRows
import Derived.Test.YtphfdbmbdaninaaUB
import Derived.WalkKit
import Derived.ProofKit
import Derived.JoinedOf
import Derived.OpenShut
import Derived.ChangeOld
import Derived.Below
import Derived.SizedLaws
namespace Go.Proofs.Ytphfdbmbdaninaa.cableFaults
open Go Go.ChangeShapes Go.WideShapes Go.RowKit Go.Proofs Go.Proofs.Ytphfdbmbdaninaa.Ab
set_option linter.unusedVariables false
theorem own : ownKnob Try.prog.godebug = none := by kernel_rfl
theorem laidOut : laidOutB Try.prog = true := by kernel_rfl
set_option maxRecDepth 100000 in
theorem lifted (os : Os) (started : os.Started) (H : Type) (enc : TypeId × Value → H) :
    ReturnsInHanded {} Try.checked os 12 .any (Rows.cableFaultsSpec.pre6 enc Try.prog Try.f12 Rows.cableFaultsRow.domain false) (Rows.cableFaultsSpec.post enc Try.prog Try.f12 false true false false) := by
  refine returnsInHanded_of_change_sized (C := Try.checked) own started (by kernel_rfl) Try.func12
    (ChangeSpec.witness6 (enc := enc) (C := Try.checked) false ⟨#[], #[.agg #[.int .i64 0, .int .i64 0, .slice none 0 0], .slice none 0 0, .int .i64 0, .agg #[.int .i64 0, .int .i64 0], .agg #[.int .i64 0, .int .i64 0, .int .i64 0, .int .i64 0, .int .i64 0], .slice none 0 0], []⟩ 8 (by kernel_rfl) (by kernel_rfl) (by kernel_rfl) (by kernel_rfl)) ?_
  intro W base args ds gs before hval hW hcnd hsz _
  refine contract_of (sh := sh12) (rt := 4) laidOut (by kernel_rfl) (by kernel_rfl) (by kernel_rfl) Try.underlying4 rfl (fun ds hl => ?_) law12 hval hW hsz
  rw [Try.params12] at hl
  match ds, hl with
  | [d1, d2, d3, d4, d5, d6], _ => rfl
theorem over : Rows.cableFaultsRow.holds Try.pinned (OpenSpec.ofChange Rows.cableFaultsSpec) :=
  OpenClaim.holds_of_wide 12 Try.f12 rfl rfl rfl rfl rfl rfl rfl ⟨rfl, rfl, rfl, rfl, rfl⟩ rfl rfl rfl rfl rfl (by kernel_rfl) Try.func12 (by kernel_rfl)
    (of_decide_eq_true (by kernel_rfl)) (by unfold Func.isWrapper; first | (rw [if_pos (by decide +kernel)]; kernel_rfl) | (rw [if_neg (by decide +kernel)]; exact ⟨rfl, rfl⟩))
    (fun os started H enc _ => lifted os started H enc)
theorem proved : Rows.CableFaultsSaid := over
end Go.Proofs.Ytphfdbmbdaninaa.cableFaults
namespace Go.Proofs.Ytphfdbmbdaninaa
/-- The row, under a short name, for the claim. -/
theorem cableFaults_holds : Rows.CableFaultsSaid := cableFaults.proved
end Go.Proofs.Ytphfdbmbdaninaa
