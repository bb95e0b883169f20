/- The law BufferAcked, for all arguments. -/
import Derived.Test.YtlhchnnfgppneaaKR
import Derived.Test.YtlhchnnfgppneaaEN
namespace Go.Proofs.Ytlhchnnfgppneaa.Ab
open Go Go.RowKit Go.Proofs
set_option linter.unusedSimpArgs false
set_option linter.unusedVariables false
attribute [local irreducible] Awp wpO thenQ blockQ bodyQ ACalls stepA

abbrev U8z : Sh := .int .u8
theorem wfKz {k : IntKind} {n : Int} (h : (Lit.int k n).wf = true) : k.min ≤ n ∧ n ≤ k.max := by simpa [Lit.wf] using h
theorem pcFitz (x : List AV) (h : Fits [U8z, U8z, U8z, U8z, U8z] x) : ∃ p : Pc, x = p.cs ∧ p.in8 := by
  obtain ⟨a, _, rfl, ha, h⟩ := fitK h
  obtain ⟨b, _, rfl, hb, h⟩ := fitK h
  obtain ⟨c, _, rfl, hc, h⟩ := fitK h
  obtain ⟨d, _, rfl, hd, h⟩ := fitK h
  obtain ⟨e, _, rfl, he, h⟩ := fitK h
  obtain rfl := fit0 h
  exact ⟨⟨a, b, c, d, e⟩, rfl, wfKz ha, wfKz hb, wfKz hc, wfKz hd, wfKz he⟩
theorem pczFit : ∀ (es : List (List AV)), (∀ x ∈ es, Fits [U8z, U8z, U8z, U8z, U8z] x) → ∃ l : List Pc, es = pcz l ∧ ∀ p ∈ l, p.in8
  | [], _ => ⟨[], rfl, by simp⟩
  | x :: es, h => by
    obtain ⟨p, rfl, hp⟩ := pcFitz x (h x (by simp))
    obtain ⟨l, rfl, hl⟩ := pczFit es fun y hy => h y (by simp [hy])
    exact ⟨p :: l, rfl, by simpa using ⟨hp, hl⟩⟩
def pczS : Bool × List Sh := (false, [.sl 5 [U8z, U8z, U8z, U8z, U8z]])
theorem pczArg {r : List (Bool × List Sh)} {xs : List AV} (h : ArgsFit (pczS :: r) xs) : ∃ (v : List Pc) (ex : Bool) (l : List AV), xs = .rsl (pcz v) ex :: l ∧ (∀ p ∈ v, p.in8) ∧ v.length ≤ maxLen ∧ ArgsFit r l := by
  obtain ⟨a, l, rfl, h1, h2⟩ := argF h
  obtain ⟨es, ex, bs, e, h3, _, hm, h4⟩ := fitL h1
  cases e
  obtain ⟨v, rfl, hv⟩ := pczFit es h3
  exact ⟨v, ex, l, rfl, hv, by rwa [pcz_len] at hm, h2⟩

def sh11 : List (Bool × List Sh) := [pczS, pczS]
theorem law11 : ∀ xs, ArgsFit sh11 xs → ACalls Try.prog 11 xs [] fun v _ => v = .val (.bool true) := by
  intro xs h0
  obtain ⟨v, ex, l, rfl, hv, hm, h1⟩ := pczArg h0
  obtain ⟨u, ex2, l, rfl, hu, hm2, h2⟩ := pczArg h1
  obtain rfl := arg0 h2
  exact BufferAcked_ok [] v u ex ex2 hv hu hm hm2

end Go.Proofs.Ytlhchnnfgppneaa.Ab
