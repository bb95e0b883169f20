/- Archive: Works. -/
import Derived.Test.YtdmgljlabigljaaYC
namespace Go.Proofs.Ytdmgljlabigljaa.Ab
open Go Go.RowKit Go.Proofs
set_option linter.unusedSimpArgs false
set_option linter.unusedVariables false
attribute [local irreducible] Awp wpO thenQ blockQ bodyQ ACalls stepA

theorem ex_new : newC exS = 0 := by kernel_rfl
theorem ex_a0 : addC exS (fillL exS []) ex0 = 0 := by kernel_rfl
theorem ex_a1 : addC exS (fillL exS [ex0]) ex1 = 0 := by kernel_rfl
theorem ex_a2 : addC exS (fillL exS [ex0, ex1]) ex2 = 0 := by kernel_rfl
theorem ex_len : (fillL exS [ex0, ex1, ex2]).length = 3 := by kernel_rfl
theorem ex_mean : meanF exS (fillL exS [ex0, ex1, ex2]) exQ = (0, 50, 252) := by kernel_rfl
theorem ex_cnt : cntsF exS (fillL exS [ex0, ex1, ex2]) 0 10 20 = (0, ex0) := by kernel_rfl

end Go.Proofs.Ytdmgljlabigljaa.Ab
