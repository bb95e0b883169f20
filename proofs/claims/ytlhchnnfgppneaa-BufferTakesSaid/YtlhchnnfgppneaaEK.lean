/- The law BufferTakes, for all arguments. -/
import Derived.Test.YtlhchnnfgppneaaKR
import Derived.Test.YtlhchnnfgppneaaEJ
namespace Go.Proofs.Ytlhchnnfgppneaa.Ab
open Go Go.RowKit Go.Proofs
set_option linter.unusedSimpArgs false
set_option linter.unusedVariables false
attribute [local irreducible] Awp wpO thenQ blockQ bodyQ ACalls stepA

abbrev I64x : Sh := .int .i64
theorem itFit (x : List AV) (h : Fits [I64x, I64x, I64x, I64x, I64x] x) : ∃ p : Item, x = p.cs := by
  obtain ⟨a, _, rfl, _, h⟩ := fitK h
  obtain ⟨b, _, rfl, _, h⟩ := fitK h
  obtain ⟨c, _, rfl, _, h⟩ := fitK h
  obtain ⟨d, _, rfl, _, h⟩ := fitK h
  obtain ⟨e, _, rfl, _, h⟩ := fitK h
  obtain rfl := fit0 h
  exact ⟨⟨a, b, c, d, e⟩, rfl⟩
theorem itsFit : ∀ (es : List (List AV)), (∀ x ∈ es, Fits [I64x, I64x, I64x, I64x, I64x] x) → ∃ l : List Item, es = its l
  | [], _ => ⟨[], rfl⟩
  | x :: es, h => by
    obtain ⟨p, rfl⟩ := itFit x (h x (by simp))
    obtain ⟨l, rfl⟩ := itsFit es fun y hy => h y (by simp [hy])
    exact ⟨p :: l, rfl⟩
def itS : Bool × List Sh := (false, [.sl 40 [I64x, I64x, I64x, I64x, I64x]])
theorem itsArg {r : List (Bool × List Sh)} {xs : List AV} (h : ArgsFit (itS :: r) xs) : ∃ (v : List Item) (ex : Bool) (l : List AV), xs = .rsl (its v) ex :: l ∧ v.length ≤ maxLen ∧ ArgsFit r l := by
  obtain ⟨a, l, rfl, h1, h2⟩ := argF h
  obtain ⟨es, ex, bs, e, h3, _, hm, h4⟩ := fitL h1
  cases e
  obtain ⟨v, rfl⟩ := itsFit es h3
  exact ⟨v, ex, l, rfl, by rwa [its_len] at hm, h2⟩

def sh8 : List (Bool × List Sh) := [itS, (false, [.int .u8])]
theorem law8 : ∀ xs, ArgsFit sh8 xs → ACalls Try.prog 8 xs [] fun v _ => v = .val (.bool true) := by
  intro xs h0
  obtain ⟨v, ex, l, rfl, hm, h1⟩ := itsArg h0
  obtain ⟨a, l, rfl, h2, h3⟩ := argF h1
  obtain ⟨n, bs, e, h4, h5⟩ := fitK h2
  cases e
  obtain rfl := arg0 h3
  have hw : IntKind.u8.min ≤ n ∧ n ≤ IntKind.u8.max := by simpa [Lit.wf] using h4
  exact BufferTakes_ok [] v ex hm n hw

end Go.Proofs.Ytlhchnnfgppneaa.Ab
