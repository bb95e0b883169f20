/- For all cables, requests, ranks and grants: Share and CheckShare hand back what the reference does; of cables with more than 20 nodes, unless there are more than 60, and of more than 100 requests, ranks or grants, only the examples are asked. -/
import Derived.Test.YtphfdbmbdaninaaRows
import Derived.Test.YtphfdbmbdaninaaUQ
import Derived.WalkKit
import Derived.ProofKit
import Derived.JoinedOf
import Derived.OpenShut
import Derived.ChangeOld
import Derived.Below
import Derived.SizedLaws
namespace Go.Proofs.Ytphfdbmbdaninaa.cableShares
open Go Go.ChangeShapes Go.WideShapes Go.RowKit Go.Proofs Go.Proofs.Ytphfdbmbdaninaa.Ab
set_option linter.unusedVariables false
theorem own : ownKnob Try.prog.godebug = none := by kernel_rfl
theorem laidOut : laidOutB Try.prog = true := by kernel_rfl
set_option maxRecDepth 100000 in
theorem lifted (os : Os) (started : os.Started) (H : Type) (enc : TypeId × Value → H) :
    ReturnsInHanded {} Try.checked os 15 .any (Rows.cableSharesSpec.pre6 enc Try.prog Try.f15 Rows.cableSharesRow.domain false) (Rows.cableSharesSpec.post enc Try.prog Try.f15 false true false false) := by
  refine returnsInHanded_of_change_sized (C := Try.checked) own started (by kernel_rfl) Try.func15
    (ChangeSpec.witness6 (enc := enc) (C := Try.checked) false ⟨#[], #[.agg #[.int .i64 0, .int .i64 0, .slice none 0 0], .slice none 0 0, .slice none 0 0, .slice none 0 0], []⟩ 8 (by kernel_rfl) (by kernel_rfl) (by kernel_rfl) (by kernel_rfl)) ?_
  intro W base args ds gs before hval hW hcnd hsz _
  refine contract_of (sh := sh15) (rt := 4) laidOut (by kernel_rfl) (by kernel_rfl) (by kernel_rfl) Try.underlying4 rfl (fun ds hl => ?_) law15 hval hW hsz
  rw [Try.params15] at hl
  match ds, hl with
  | [d1, d2, d3, d4], _ => rfl
theorem over : Rows.cableSharesRow.holds Try.pinned (OpenSpec.ofChange Rows.cableSharesSpec) :=
  OpenClaim.holds_of_wide 15 Try.f15 rfl rfl rfl rfl rfl rfl rfl ⟨rfl, rfl, rfl, rfl, rfl⟩ rfl rfl rfl rfl rfl (by kernel_rfl) Try.func15 (by kernel_rfl)
    (of_decide_eq_true (by kernel_rfl)) (by unfold Func.isWrapper; first | (rw [if_pos (by decide +kernel)]; kernel_rfl) | (rw [if_neg (by decide +kernel)]; exact ⟨rfl, rfl⟩))
    (fun os started H enc _ => lifted os started H enc)
theorem proved : Rows.CableSharesSaid := over
end Go.Proofs.Ytphfdbmbdaninaa.cableShares
namespace Go.Proofs.Ytphfdbmbdaninaa
/-- The row, under a short name, for the claim. -/
theorem cableShares_holds : Rows.CableSharesSaid := cableShares.proved
end Go.Proofs.Ytphfdbmbdaninaa
