/- The entry that counts has the greatest version of all that have arrived, for all arguments. -/
import Derived.Test.YtdmgljlabigljaaRows
import Derived.Test.YtdmgljlabigljaaYJ
import Derived.WalkKit
import Derived.ProofKit
import Derived.JoinedOf
import Derived.OpenShut
import Derived.ChangeOld
import Derived.Below
import Derived.SizedLaws
namespace Go.Proofs.Ytdmgljlabigljaa.archiveVersions
open Go Go.ChangeShapes Go.WideShapes Go.RowKit Go.Proofs Go.Proofs.Ytdmgljlabigljaa.Ab
set_option linter.unusedVariables false
theorem own : ownKnob Try.prog.godebug = none := by kernel_rfl
theorem laidOut : laidOutB Try.prog = true := by kernel_rfl
set_option maxRecDepth 100000 in
theorem lifted (os : Os) (started : os.Started) (H : Type) (enc : TypeId × Value → H) :
    ReturnsInHanded {} Try.checked os 3 .any (Rows.archiveVersionsSpec.pre6 enc Try.prog Try.f3 Rows.archiveVersionsRow.domain false) (Rows.archiveVersionsSpec.post enc Try.prog Try.f3 false true false false) := by
  refine returnsInHanded_of_change_sized (C := Try.checked) own started (by kernel_rfl) Try.func3
    (ChangeSpec.witness6 (enc := enc) (C := Try.checked) false ⟨#[], #[.slice none 0 0, .slice none 0 0, .int .i64 0, .int .i64 0, .int .i64 0, .int .i64 0], []⟩ 8 (by kernel_rfl) (by kernel_rfl) (by kernel_rfl) (by kernel_rfl)) ?_
  intro W base args ds gs before hval hW hcnd hsz _
  refine contract_of (sh := sh3) (rt := 4) laidOut (by kernel_rfl) (by kernel_rfl) (by kernel_rfl) Try.underlying4 rfl (fun ds hl => ?_) law3 hval hW hsz
  rw [Try.params3] at hl
  match ds, hl with
  | [d1, d2, d3, d4, d5, d6], _ => rfl
theorem over : Rows.archiveVersionsRow.holds Try.pinned (OpenSpec.ofChange Rows.archiveVersionsSpec) :=
  OpenClaim.holds_of_wide 3 Try.f3 rfl rfl rfl rfl rfl rfl rfl ⟨rfl, rfl, rfl, rfl, rfl⟩ rfl rfl rfl rfl rfl (by kernel_rfl) Try.func3 (by kernel_rfl)
    (of_decide_eq_true (by kernel_rfl)) (by unfold Func.isWrapper; first | (rw [if_pos (by decide +kernel)]; kernel_rfl) | (rw [if_neg (by decide +kernel)]; exact ⟨rfl, rfl⟩))
    (fun os started H enc _ => lifted os started H enc)
theorem proved : Rows.ArchiveVersionsSaid := over
end Go.Proofs.Ytdmgljlabigljaa.archiveVersions
namespace Go.Proofs.Ytdmgljlabigljaa
/-- The row, under a short name, for the claim. -/
theorem archiveVersions_holds : Rows.ArchiveVersionsSaid := archiveVersions.proved
end Go.Proofs.Ytdmgljlabigljaa
