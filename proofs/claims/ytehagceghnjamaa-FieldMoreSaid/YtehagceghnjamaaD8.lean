/- Fields: the law FieldMore. -/
import Derived.Test.YtehagceghnjamaaD7
import Derived.Test.YtehagceghnjamaaQ2
namespace Go.Proofs.Ytehagceghnjamaa.Ab
open Go Go.RowKit Go.Proofs
set_option linter.unusedSimpArgs false
set_option linter.unusedVariables false
attribute [local irreducible] Awp wpO thenQ blockQ bodyQ ACalls stepA

theorem fitMapP {α : Type} {e : List Sh} (f : α → List AV) (P : α → Prop) (hf : ∀ x, Fits e x → ∃ a, x = f a ∧ P a) : ∀ es : List (List AV), (∀ x ∈ es, Fits e x) → ∃ l : List α, es = l.map f ∧ ∀ a ∈ l, P a
  | [], _ => ⟨[], rfl, by simp⟩
  | x :: es, h => by
    obtain ⟨a, rfl, ha⟩ := hf x (h _ (by simp))
    obtain ⟨l, rfl, hl⟩ := fitMapP f P hf es fun y hy => h y (by simp [hy])
    refine ⟨a :: l, rfl, fun b hb => ?_⟩
    rcases List.mem_cons.1 hb with rfl | hb
    · exact ha
    · exact hl b hb

theorem partFit (x : List AV) (h : Fits [I, I, I, I, I, .sl 8 [I], I] x) : ∃ p : Part, x = p.cs ∧ p.r.length ≤ maxLen := by
  obtain ⟨k, _, rfl, _, h⟩ := fitK h
  obtain ⟨a, _, rfl, _, h⟩ := fitK h
  obtain ⟨b, _, rfl, _, h⟩ := fitK h
  obtain ⟨c, _, rfl, _, h⟩ := fitK h
  obtain ⟨d, _, rfl, _, h⟩ := fitK h
  obtain ⟨es, ex, _, rfl, h3, _, hm, h⟩ := fitL h
  obtain ⟨m, _, rfl, _, h⟩ := fitK h
  obtain rfl := fit0 h
  obtain ⟨v, rfl⟩ := fitMap (fun x : Int => [iv x]) intFit es h3
  exact ⟨⟨k, ⟨a, b⟩, ⟨c, d⟩, v, ex, m⟩, rfl, by simpa using hm⟩

def partS : Bool × List Sh := (false, [.sl 72 [I, I, I, I, I, .sl 8 [I], I]])
theorem partArg {r : List (Bool × List Sh)} {xs : List AV} (h : ArgsFit (partS :: r) xs) : ∃ (q : List Part) (ex : Bool) (l : List AV), xs = .rsl (q.map Part.cs) ex :: l ∧ (∀ p ∈ q, p.r.length ≤ maxLen) ∧ ArgsFit r l := by
  obtain ⟨a, l, rfl, h1, h2⟩ := argF h
  obtain ⟨es, ex, bs, e, h3, _, hm, h4⟩ := fitL h1
  cases e
  obtain ⟨q, rfl, hq⟩ := fitMapP Part.cs (fun p => p.r.length ≤ maxLen) partFit es h3
  exact ⟨q, ex, l, rfl, hq, h2⟩

def sh9 : List (Bool × List Sh) := [fdS, seenS, (true, [I, I, I, I]), partS]
theorem law9 : ∀ xs, ArgsFit sh9 xs → ACalls Try.prog 9 xs [] fun v _ => v = .val (.bool true) := by
  intro xs h0
  obtain ⟨f, _, rfl, h1⟩ := fdArg h0
  obtain ⟨l, ex, _, rfl, h2⟩ := seenArg h1
  obtain ⟨bs, _, rfl, h3, h4⟩ := argT h2
  obtain ⟨a, _, rfl, _, h3⟩ := fitK h3
  obtain ⟨b, _, rfl, _, h3⟩ := fitK h3
  obtain ⟨c, _, rfl, _, h3⟩ := fitK h3
  obtain ⟨d, _, rfl, _, h3⟩ := fitK h3
  obtain rfl := fit0 h3
  obtain ⟨q, ey, _, rfl, hq, h5⟩ := partArg h4
  obtain rfl := arg0 h5
  exact (FieldMore_of Ask_ok [] f l ex ⟨a, b, c, d⟩ q ey hq).mono fun v H' h => h.1

end Go.Proofs.Ytehagceghnjamaa.Ab
