/- Values that fit the observations lie in all sets; their sums lie in the contents, and the differences of these in the changes. -/
import Derived.Test.YtehagceghnjamaaRows
import Derived.Test.YtehagceghnjamaaQ0
import Derived.WalkKit
import Derived.ProofKit
import Derived.JoinedOf
import Derived.OpenShut
import Derived.ChangeOld
import Derived.Below
import Derived.SizedLaws
namespace Go.Proofs.Ytehagceghnjamaa.fieldTruth
open Go Go.ChangeShapes Go.WideShapes Go.RowKit Go.Proofs Go.Proofs.Ytehagceghnjamaa.Ab
set_option linter.unusedVariables false
theorem own : ownKnob Try.prog.godebug = none := by kernel_rfl
theorem laidOut : laidOutB Try.prog = true := by kernel_rfl
set_option maxRecDepth 100000 in
theorem lifted (os : Os) (started : os.Started) (H : Type) (enc : TypeId × Value → H) :
    ReturnsInHanded {} Try.checked os 11 .any (Rows.fieldTruthSpec.pre6 enc Try.prog Try.f11 Rows.fieldTruthRow.domain false) (Rows.fieldTruthSpec.post enc Try.prog Try.f11 false true false false) := by
  refine returnsInHanded_of_change_sized (C := Try.checked) own started (by kernel_rfl) Try.func11
    (ChangeSpec.witness6 (enc := enc) (C := Try.checked) false ⟨#[], #[.agg #[.int .i64 0, .int .i64 0, .int .i64 0, .int .i64 0, .int .i64 0, .int .i64 0, .int .i64 0], .slice none 0 0, .slice none 0 0, .int .i64 0, .int .i64 0, .int .u16 0, .int .u8 0], []⟩ 8 (by kernel_rfl) (by kernel_rfl) (by kernel_rfl) (by kernel_rfl)) ?_
  intro W base args ds gs before hval hW hcnd hsz _
  refine contract_of (sh := sh11) (rt := 4) laidOut (by kernel_rfl) (by kernel_rfl) (by kernel_rfl) Try.underlying4 rfl (fun ds hl => ?_) law11 hval hW hsz
  rw [Try.params11] at hl
  match ds, hl with
  | [d1, d2, d3, d4, d5, d6, d7], _ => rfl
theorem over : Rows.fieldTruthRow.holds Try.pinned (OpenSpec.ofChange Rows.fieldTruthSpec) :=
  OpenClaim.holds_of_wide 11 Try.f11 rfl rfl rfl rfl rfl rfl rfl ⟨rfl, rfl, rfl, rfl, rfl⟩ rfl rfl rfl rfl rfl (by kernel_rfl) Try.func11 (by kernel_rfl)
    (of_decide_eq_true (by kernel_rfl)) (by unfold Func.isWrapper; first | (rw [if_pos (by decide +kernel)]; kernel_rfl) | (rw [if_neg (by decide +kernel)]; exact ⟨rfl, rfl⟩))
    (fun os started H enc _ => lifted os started H enc)
theorem proved : Rows.FieldTruthSaid := over
end Go.Proofs.Ytehagceghnjamaa.fieldTruth
namespace Go.Proofs.Ytehagceghnjamaa
/-- The row, under a short name, for the claim. -/
theorem fieldTruth_holds : Rows.FieldTruthSaid := fieldTruth.proved
end Go.Proofs.Ytehagceghnjamaa
