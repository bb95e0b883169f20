/- The law BufferChooses, for all arguments. -/
import Derived.Test.YtlhchnnfgppneaaKR
import Derived.Test.YtlhchnnfgppneaaRL
namespace Go.Proofs.Ytlhchnnfgppneaa.Ab
open Go Go.RowKit Go.Proofs
set_option linter.unusedSimpArgs false
set_option linter.unusedVariables false
attribute [local irreducible] Awp wpO thenQ blockQ bodyQ ACalls stepA

theorem prFit (x : List AV) (h : Fits [.int .i64, .int .i64] x) : ∃ p : Pr, x = p.cs := by
  obtain ⟨a, _, rfl, ha, h⟩ := fitK h
  obtain ⟨b, _, rfl, hb, h⟩ := fitK h
  obtain rfl := fit0 h
  exact ⟨⟨a, b⟩, rfl⟩
theorem prsFit : ∀ (es : List (List AV)), (∀ x ∈ es, Fits [.int .i64, .int .i64] x) → ∃ l : List Pr, es = prs l
  | [], _ => ⟨[], rfl⟩
  | x :: es, h => by
    obtain ⟨p, rfl⟩ := prFit x (h x (by simp))
    obtain ⟨l, rfl⟩ := prsFit es fun y hy => h y (by simp [hy])
    exact ⟨p :: l, rfl⟩

def sh9 : List (Bool × List Sh) := [(false, [.sl 16 [.int .i64, .int .i64]]), (false, [.int .i64])]
theorem law9 : ∀ xs, ArgsFit sh9 xs → ACalls Try.prog 9 xs [] fun v _ => v = .val (.bool true) := by
  intro xs h0
  obtain ⟨a, l, rfl, h1, h2⟩ := argF h0
  obtain ⟨es, ex, bs, e, h3, _, hm, h4⟩ := fitL h1
  cases e
  obtain ⟨v, rfl⟩ := prsFit es h3
  obtain ⟨a, l, rfl, h5, h6⟩ := argF h2
  obtain ⟨n, bs, e, h7, h8⟩ := fitK h5
  cases e
  obtain rfl := arg0 h6
  exact BufferChooses_ok [] v ex n

end Go.Proofs.Ytlhchnnfgppneaa.Ab
