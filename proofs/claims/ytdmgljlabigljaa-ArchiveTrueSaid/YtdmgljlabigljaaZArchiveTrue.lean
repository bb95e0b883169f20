/- The mean for a reader contains the mean as of which less is hidden, for all arguments. -/
import Derived.Test.YtdmgljlabigljaaRows
import Derived.Test.YtdmgljlabigljaaZD
import Derived.WalkKit
import Derived.ProofKit
import Derived.JoinedOf
import Derived.OpenShut
import Derived.ChangeOld
import Derived.Below
import Derived.SizedLaws
namespace Go.Proofs.Ytdmgljlabigljaa.archiveTrue
open Go Go.ChangeShapes Go.WideShapes Go.RowKit Go.Proofs Go.Proofs.Ytdmgljlabigljaa.Ab
set_option linter.unusedVariables false
theorem own : ownKnob Try.prog.godebug = none := by kernel_rfl
theorem laidOut : laidOutB Try.prog = true := by kernel_rfl
set_option maxRecDepth 100000 in
theorem lifted (os : Os) (started : os.Started) (H : Type) (enc : TypeId × Value → H) :
    ReturnsInHanded {} Try.checked os 4 .any (Rows.archiveTrueSpec.pre6 enc Try.prog Try.f4 Rows.archiveTrueRow.domain false) (Rows.archiveTrueSpec.post enc Try.prog Try.f4 false true false false) := by
  refine returnsInHanded_of_change_sized (C := Try.checked) own started (by kernel_rfl) Try.func4
    (ChangeSpec.witness6 (enc := enc) (C := Try.checked) false ⟨#[], #[.slice none 0 0, .slice none 0 0, .agg #[.int .i64 0, .int .i64 0, .int .i64 0, .int .i64 0, .int .i64 0, .int .i64 0], .int .i64 0, .int .u32 0], []⟩ 8 (by kernel_rfl) (by kernel_rfl) (by kernel_rfl) (by kernel_rfl)) ?_
  intro W base args ds gs before hval hW hcnd hsz _
  refine contract_of (sh := sh4) (rt := 4) laidOut (by kernel_rfl) (by kernel_rfl) (by kernel_rfl) Try.underlying4 rfl (fun ds hl => ?_) law4 hval hW hsz
  rw [Try.params4] at hl
  match ds, hl with
  | [d1, d2, d3, d4, d5], _ => rfl
theorem over : Rows.archiveTrueRow.holds Try.pinned (OpenSpec.ofChange Rows.archiveTrueSpec) :=
  OpenClaim.holds_of_wide 4 Try.f4 rfl rfl rfl rfl rfl rfl rfl ⟨rfl, rfl, rfl, rfl, rfl⟩ rfl rfl rfl rfl rfl (by kernel_rfl) Try.func4 (by kernel_rfl)
    (of_decide_eq_true (by kernel_rfl)) (by unfold Func.isWrapper; first | (rw [if_pos (by decide +kernel)]; kernel_rfl) | (rw [if_neg (by decide +kernel)]; exact ⟨rfl, rfl⟩))
    (fun os started H enc _ => lifted os started H enc)
theorem proved : Rows.ArchiveTrueSaid := over
end Go.Proofs.Ytdmgljlabigljaa.archiveTrue
namespace Go.Proofs.Ytdmgljlabigljaa
/-- The row, under a short name, for the claim. -/
theorem archiveTrue_holds : Rows.ArchiveTrueSaid := archiveTrue.proved
end Go.Proofs.Ytdmgljlabigljaa
