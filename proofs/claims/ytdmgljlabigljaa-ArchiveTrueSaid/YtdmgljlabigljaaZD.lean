/- Archive: the law True for all arguments. -/
import Derived.Test.YtdmgljlabigljaaYI
import Derived.Test.YtdmgljlabigljaaZC
namespace Go.Proofs.Ytdmgljlabigljaa.Ab
open Go Go.RowKit Go.Proofs
set_option linter.unusedSimpArgs false
set_option linter.unusedVariables false
attribute [local irreducible] Awp wpO thenQ blockQ bodyQ ACalls stepA

def sh4 : List (Bool × List Sh) := [(false, [.sl 32 serSh]), (false, [.sl 80 entSh]), (true, [.int .i64, .int .i64, .int .i64, .int .i64, .int .i64, .int .i64]), (false, [.int .i64]), (false, [.int .u32])]
theorem qyFit (x : List AV) (h : Fits [.int .i64, .int .i64, .int .i64, .int .i64, .int .i64, .int .i64] x) : ∃ q : Qy, x = q.cs := by
  obtain ⟨a, _, rfl, _, h⟩ := fitK h
  obtain ⟨b, _, rfl, _, h⟩ := fitK h
  obtain ⟨c, _, rfl, _, h⟩ := fitK h
  obtain ⟨d, _, rfl, _, h⟩ := fitK h
  obtain ⟨e, _, rfl, _, h⟩ := fitK h
  obtain ⟨f, _, rfl, _, h⟩ := fitK h
  obtain rfl := fit0 h
  exact ⟨⟨a, b, c, d, e, f⟩, rfl⟩
theorem wf32 {n : Int} (h : (Lit.int .u32 n).wf = true) : 0 ≤ n ∧ n ≤ 4294967295 := by
  have h1 : IntKind.u32.min ≤ n ∧ n ≤ IntKind.u32.max := by simpa [Lit.wf] using h
  exact h1
theorem law4 : ∀ xs, ArgsFit sh4 xs → ACalls Try.prog 4 xs [] fun v _ => v = .val (.bool true) := by
  intro xs h0
  obtain ⟨S, ex, l, rfl, hS, h1⟩ := sersArg h0
  obtain ⟨L, ex', l, rfl, hL, h2⟩ := entsArg h1
  obtain ⟨bs, l, rfl, hq, h3⟩ := argT h2
  obtain ⟨q, rfl⟩ := qyFit bs hq
  obtain ⟨c, l, rfl, _, h5⟩ := intArg h3
  obtain ⟨d, l, rfl, hd, h6⟩ := intArg h5
  obtain rfl := arg0 h6
  exact (true_ok [] S L ex ex' q c d (wf32 hd) hS hL).mono fun v H' h => h.1

end Go.Proofs.Ytdmgljlabigljaa.Ab
