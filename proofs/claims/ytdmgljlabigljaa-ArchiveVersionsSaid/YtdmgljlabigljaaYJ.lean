/- Archive: the law Versions for all arguments. -/
import Derived.Test.YtdmgljlabigljaaYI
import Derived.Test.YtdmgljlabigljaaYH
namespace Go.Proofs.Ytdmgljlabigljaa.Ab
open Go Go.RowKit Go.Proofs
set_option linter.unusedSimpArgs false
set_option linter.unusedVariables false
attribute [local irreducible] Awp wpO thenQ blockQ bodyQ ACalls stepA

def sh3 : List (Bool × List Sh) := [(false, [.sl 32 serSh]), (false, [.sl 80 entSh]), (false, [.int .i64]), (false, [.int .i64]), (false, [.int .i64]), (false, [.int .i64])]
theorem law3 : ∀ xs, ArgsFit sh3 xs → ACalls Try.prog 3 xs [] fun v _ => v = .val (.bool true) := by
  intro xs h0
  obtain ⟨S, ex, l, rfl, hS, h1⟩ := sersArg h0
  obtain ⟨L, ex', l, rfl, hL, h2⟩ := entsArg h1
  obtain ⟨a, l, rfl, _, h3⟩ := intArg h2
  obtain ⟨b, l, rfl, _, h4⟩ := intArg h3
  obtain ⟨c, l, rfl, _, h5⟩ := intArg h4
  obtain ⟨d, l, rfl, _, h6⟩ := intArg h5
  obtain rfl := arg0 h6
  exact (versions_ok [] S L ex ex' a b c d hS hL).mono fun v H' h => h.1

end Go.Proofs.Ytdmgljlabigljaa.Ab
