/- BufferBest: no choice is worth more than the best one, and none of the same worth is smaller; with more bytes, or with one more parcel, the best one is worth no less; under the conditions of the given statement. -/
import Derived.Test.YtlhchnnfgppneaaRows
import Derived.Test.YtlhchnnfgppneaaRF
import Derived.WalkKit
import Derived.ProofKit
import Derived.JoinedOf
import Derived.OpenShut
import Derived.ChangeOld
import Derived.Below
import Derived.SizedLaws
namespace Go.Proofs.Ytlhchnnfgppneaa.bufferBest
open Go Go.ChangeShapes Go.WideShapes Go.RowKit Go.Proofs Go.Proofs.Ytlhchnnfgppneaa.Ab
set_option linter.unusedVariables false
theorem own : ownKnob Try.prog.godebug = none := by kernel_rfl
theorem laidOut : laidOutB Try.prog = true := by kernel_rfl
set_option maxRecDepth 100000 in
theorem lifted (os : Os) (started : os.Started) (H : Type) (enc : TypeId × Value → H) :
    ReturnsInHanded {} Try.checked os 10 .any (Rows.bufferBestSpec.pre6 enc Try.prog Try.f10 Rows.bufferBestRow.domain false) (Rows.bufferBestSpec.post enc Try.prog Try.f10 false true false false) := by
  refine returnsInHanded_of_change_sized (C := Try.checked) own started (by kernel_rfl) Try.func10
    (ChangeSpec.witness6 (enc := enc) (C := Try.checked) false ⟨#[], #[.slice none 0 0, .int .u16 0, .int .u32 0, .int .u16 0], []⟩ 8 (by kernel_rfl) (by kernel_rfl) (by kernel_rfl) (by kernel_rfl)) ?_
  intro W base args ds gs before hval hW hcnd hsz _
  refine contract_of (sh := sh10) (rt := 4) laidOut (by kernel_rfl) (by kernel_rfl) (by kernel_rfl) Try.underlying4 rfl (fun ds hl => ?_) law10 hval hW hsz
  rw [Try.params10] at hl
  match ds, hl with
  | [d1, d2, d3, d4], _ => rfl
theorem over : Rows.bufferBestRow.holds Try.pinned (OpenSpec.ofChange Rows.bufferBestSpec) :=
  OpenClaim.holds_of_wide 10 Try.f10 rfl rfl rfl rfl rfl rfl rfl ⟨rfl, rfl, rfl, rfl, rfl⟩ rfl rfl rfl rfl rfl (by kernel_rfl) Try.func10 (by kernel_rfl)
    (of_decide_eq_true (by kernel_rfl)) (by unfold Func.isWrapper; first | (rw [if_pos (by decide +kernel)]; kernel_rfl) | (rw [if_neg (by decide +kernel)]; exact ⟨rfl, rfl⟩))
    (fun os started H enc _ => lifted os started H enc)
theorem proved : Rows.BufferBestSaid := over
end Go.Proofs.Ytlhchnnfgppneaa.bufferBest
namespace Go.Proofs.Ytlhchnnfgppneaa
/-- The row, under a short name, for the claim. -/
theorem bufferBest_holds : Rows.BufferBestSaid := bufferBest.proved
end Go.Proofs.Ytlhchnnfgppneaa
