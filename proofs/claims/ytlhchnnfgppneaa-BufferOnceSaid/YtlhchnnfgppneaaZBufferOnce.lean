/- BufferOnce: whatever is lost, the inbox has each record at most once, unchanged; each record put is held, has arrived, or was dropped; in the end all arrive (at most 12 rounds of at most 6 records). -/
import Derived.Test.YtlhchnnfgppneaaRows
import Derived.Test.YtlhchnnfgppneaaYR
import Derived.WalkKit
import Derived.ProofKit
import Derived.JoinedOf
import Derived.OpenShut
import Derived.ChangeOld
import Derived.Below
import Derived.SizedLaws
namespace Go.Proofs.Ytlhchnnfgppneaa.bufferOnce
open Go Go.ChangeShapes Go.WideShapes Go.RowKit Go.Proofs Go.Proofs.Ytlhchnnfgppneaa.Ab
set_option linter.unusedVariables false
theorem own : ownKnob Try.prog.godebug = none := by kernel_rfl
theorem laidOut : laidOutB Try.prog = true := by kernel_rfl
set_option maxRecDepth 100000 in
theorem lifted (os : Os) (started : os.Started) (H : Type) (enc : TypeId × Value → H) :
    ReturnsInHanded {} Try.checked os 12 .any (Rows.bufferOnceSpec.pre6 enc Try.prog Try.f12 Rows.bufferOnceRow.domain false) (Rows.bufferOnceSpec.post enc Try.prog Try.f12 false true false false) := by
  refine returnsInHanded_of_change_sized (C := Try.checked) own started (by kernel_rfl) Try.func12
    (ChangeSpec.witness6 (enc := enc) (C := Try.checked) false ⟨#[], #[.int .u16 0, .slice none 0 0], []⟩ 8 (by kernel_rfl) (by kernel_rfl) (by kernel_rfl) (by kernel_rfl)) ?_
  intro W base args ds gs before hval hW hcnd hsz _
  refine contract_of (sh := sh12) (rt := 4) laidOut (by kernel_rfl) (by kernel_rfl) (by kernel_rfl) Try.underlying4 rfl (fun ds hl => ?_) law12 hval hW hsz
  rw [Try.params12] at hl
  match ds, hl with
  | [d1, d2], _ => rfl
theorem over : Rows.bufferOnceRow.holds Try.pinned (OpenSpec.ofChange Rows.bufferOnceSpec) :=
  OpenClaim.holds_of_wide 12 Try.f12 rfl rfl rfl rfl rfl rfl rfl ⟨rfl, rfl, rfl, rfl, rfl⟩ rfl rfl rfl rfl rfl (by kernel_rfl) Try.func12 (by kernel_rfl)
    (of_decide_eq_true (by kernel_rfl)) (by unfold Func.isWrapper; first | (rw [if_pos (by decide +kernel)]; kernel_rfl) | (rw [if_neg (by decide +kernel)]; exact ⟨rfl, rfl⟩))
    (fun os started H enc _ => lifted os started H enc)
theorem proved : Rows.BufferOnceSaid := over
end Go.Proofs.Ytlhchnnfgppneaa.bufferOnce
namespace Go.Proofs.Ytlhchnnfgppneaa
/-- The row, under a short name, for the claim. -/
theorem bufferOnce_holds : Rows.BufferOnceSaid := bufferOnce.proved
end Go.Proofs.Ytlhchnnfgppneaa
