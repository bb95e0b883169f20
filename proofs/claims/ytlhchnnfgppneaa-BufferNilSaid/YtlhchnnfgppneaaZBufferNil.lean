/- Functions of a buffer or an inbox that is not valid return ErrNil, or zero values, and Copy nil. -/
import Derived.Test.YtlhchnnfgppneaaRows
import Derived.Test.YtlhchnnfgppneaaJ3
import Derived.WalkKit
import Derived.ProofKit
import Derived.JoinedOf
import Derived.OpenShut
import Derived.ChangeOld
import Derived.Below
import Derived.SizedLaws
namespace Go.Proofs.Ytlhchnnfgppneaa.bufferNil
open Go Go.ChangeShapes Go.WideShapes Go.RowKit Go.Proofs Go.Proofs.Ytlhchnnfgppneaa.Ab
set_option linter.unusedVariables false
theorem own : ownKnob Try.prog.godebug = none := by kernel_rfl
theorem laidOut : laidOutB Try.prog = true := by kernel_rfl
set_option maxRecDepth 100000 in
theorem lifted (os : Os) (started : os.Started) (H : Type) (enc : TypeId × Value → H) :
    ReturnsInHanded {} Try.checked os 13 .any (Rows.bufferNilSpec.pre6 enc Try.prog Try.f13 Rows.bufferNilRow.domain false) (Rows.bufferNilSpec.post enc Try.prog Try.f13 false true false false) := by
  refine returnsInHanded_of_change_sized (C := Try.checked) own started (by kernel_rfl) Try.func13
    (ChangeSpec.witness6 (enc := enc) (C := Try.checked) false ⟨#[], #[.agg #[.int .i64 0, .int .i64 0, .int .i64 0, .int .i64 0, .int .i64 0], .int .i64 0], []⟩ 8 (by kernel_rfl) (by kernel_rfl) (by kernel_rfl) (by kernel_rfl)) ?_
  intro W base args ds gs before hval hW hcnd hsz _
  refine contract_of (sh := sh13) (rt := 4) laidOut (by kernel_rfl) (by kernel_rfl) (by kernel_rfl) Try.underlying4 rfl (fun ds hl => ?_) law13 hval hW hsz
  rw [Try.params13] at hl
  match ds, hl with
  | [d1, d2], _ => rfl
theorem over : Rows.bufferNilRow.holds Try.pinned (OpenSpec.ofChange Rows.bufferNilSpec) :=
  OpenClaim.holds_of_wide 13 Try.f13 rfl rfl rfl rfl rfl rfl rfl ⟨rfl, rfl, rfl, rfl, rfl⟩ rfl rfl rfl rfl rfl (by kernel_rfl) Try.func13 (by kernel_rfl)
    (of_decide_eq_true (by kernel_rfl)) (by unfold Func.isWrapper; first | (rw [if_pos (by decide +kernel)]; kernel_rfl) | (rw [if_neg (by decide +kernel)]; exact ⟨rfl, rfl⟩))
    (fun os started H enc _ => lifted os started H enc)
theorem proved : Rows.BufferNilSaid := over
end Go.Proofs.Ytlhchnnfgppneaa.bufferNil
namespace Go.Proofs.Ytlhchnnfgppneaa
/-- The row, under a short name, for the claim. -/
theorem bufferNil_holds : Rows.BufferNilSaid := bufferNil.proved
end Go.Proofs.Ytlhchnnfgppneaa
