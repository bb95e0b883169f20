/- If the true quantities lie in the spans of all measurements, the true distance lies in the place and the true segment is named; with one measurement less the place is not narrower, and their order does not matter; for all arguments that the statement's guards let in. -/
import Derived.Test.YtphfdbmbdaninaaRows
import Derived.Test.YtphfdbmbdaninaaUF
import Derived.WalkKit
import Derived.ProofKit
import Derived.JoinedOf
import Derived.OpenShut
import Derived.ChangeOld
import Derived.Below
import Derived.SizedLaws
namespace Go.Proofs.Ytphfdbmbdaninaa.cableLocated
open Go Go.ChangeShapes Go.WideShapes Go.RowKit Go.Proofs Go.Proofs.Ytphfdbmbdaninaa.Ab
set_option linter.unusedVariables false
theorem own : ownKnob Try.prog.godebug = none := by kernel_rfl
theorem laidOut : laidOutB Try.prog = true := by kernel_rfl
set_option maxRecDepth 100000 in
theorem lifted (os : Os) (started : os.Started) (H : Type) (enc : TypeId × Value → H) :
    ReturnsInHanded {} Try.checked os 13 .any (Rows.cableLocatedSpec.pre6 enc Try.prog Try.f13 Rows.cableLocatedRow.domain false) (Rows.cableLocatedSpec.post enc Try.prog Try.f13 false true false false) := by
  refine returnsInHanded_of_change_sized (C := Try.checked) own started (by kernel_rfl) Try.func13
    (ChangeSpec.witness6 (enc := enc) (C := Try.checked) false ⟨#[], #[.agg #[.int .i64 0, .int .i64 0, .slice none 0 0], .slice none 0 0, .int .u8 0, .int .u16 0, .slice none 0 0], []⟩ 8 (by kernel_rfl) (by kernel_rfl) (by kernel_rfl) (by kernel_rfl)) ?_
  intro W base args ds gs before hval hW hcnd hsz _
  refine contract_of (sh := sh13) (rt := 4) laidOut (by kernel_rfl) (by kernel_rfl) (by kernel_rfl) Try.underlying4 rfl (fun ds hl => ?_) law13 hval hW hsz
  rw [Try.params13] at hl
  match ds, hl with
  | [d1, d2, d3, d4, d5], _ => rfl
theorem over : Rows.cableLocatedRow.holds Try.pinned (OpenSpec.ofChange Rows.cableLocatedSpec) :=
  OpenClaim.holds_of_wide 13 Try.f13 rfl rfl rfl rfl rfl rfl rfl ⟨rfl, rfl, rfl, rfl, rfl⟩ rfl rfl rfl rfl rfl (by kernel_rfl) Try.func13 (by kernel_rfl)
    (of_decide_eq_true (by kernel_rfl)) (by unfold Func.isWrapper; first | (rw [if_pos (by decide +kernel)]; kernel_rfl) | (rw [if_neg (by decide +kernel)]; exact ⟨rfl, rfl⟩))
    (fun os started H enc _ => lifted os started H enc)
theorem proved : Rows.CableLocatedSaid := over
end Go.Proofs.Ytphfdbmbdaninaa.cableLocated
namespace Go.Proofs.Ytphfdbmbdaninaa
/-- The row, under a short name, for the claim. -/
theorem cableLocated_holds : Rows.CableLocatedSaid := cableLocated.proved
end Go.Proofs.Ytphfdbmbdaninaa
