/- The law BufferPlays, for all arguments. -/
import Derived.Test.YtlhchnnfgppneaaYQ
import Derived.Test.YtlhchnnfgppneaaYR
namespace Go.Proofs.Ytlhchnnfgppneaa.Ab
open Go Go.RowKit Go.Proofs
set_option linter.unusedSimpArgs false
set_option linter.unusedVariables false
attribute [local irreducible] Awp wpO thenQ blockQ bodyQ ACalls stepA

abbrev U8' : Sh := .int .u8
abbrev I64' : Sh := .int .i64
theorem wfK' {k : IntKind} {n : Int} (h : (Lit.int k n).wf = true) : k.min ≤ n ∧ n ≤ k.max := by simpa [Lit.wf] using h
theorem spFit (x : List AV) (h : Fits [I64', I64'] x) : ∃ p : Int × Int, x = [iv p.1, iv p.2] := by
  obtain ⟨a, _, rfl, ha, h⟩ := fitK h
  obtain ⟨b, _, rfl, hb, h⟩ := fitK h
  obtain rfl := fit0 h
  exact ⟨(a, b), rfl⟩
theorem spsFit : ∀ (es : List (List AV)), (∀ x ∈ es, Fits [I64', I64'] x) → ∃ l : List (Int × Int), es = sps l
  | [], _ => ⟨[], rfl⟩
  | x :: es, h => by
    obtain ⟨p, rfl⟩ := spFit x (h x (by simp))
    obtain ⟨l, rfl⟩ := spsFit es fun y hy => h y (by simp [hy])
    exact ⟨p :: l, rfl⟩
theorem axFit (x : List AV) (h : Fits [U8', I64', I64', I64', I64', I64', I64', I64', I64', .sl 16 [I64', I64']] x) : ∃ p : Ax, x = p.cs ∧ (0 ≤ p.kind ∧ p.kind ≤ 255) := by
  obtain ⟨a, _, rfl, ha, h⟩ := fitK h
  obtain ⟨b, _, rfl, hb, h⟩ := fitK h
  obtain ⟨c, _, rfl, hc, h⟩ := fitK h
  obtain ⟨d, _, rfl, hd, h⟩ := fitK h
  obtain ⟨e, _, rfl, he, h⟩ := fitK h
  obtain ⟨f, _, rfl, hf, h⟩ := fitK h
  obtain ⟨g, _, rfl, hg, h⟩ := fitK h
  obtain ⟨i, _, rfl, hi, h⟩ := fitK h
  obtain ⟨j, _, rfl, hj, h⟩ := fitK h
  obtain ⟨es, ex, bs, e1, h3, _, hm, h4⟩ := fitL h
  subst e1
  obtain ⟨s, rfl⟩ := spsFit es h3
  obtain rfl := fit0 h4
  exact ⟨⟨a, ⟨b, c, d, e, f⟩, g, i, j, s, ex⟩, rfl, wfK' ha⟩
theorem axsFit : ∀ (es : List (List AV)), (∀ x ∈ es, Fits [U8', I64', I64', I64', I64', I64', I64', I64', I64', .sl 16 [I64', I64']] x) → ∃ l : List Ax, es = axs l ∧ ∀ p ∈ l, 0 ≤ p.kind ∧ p.kind ≤ 255
  | [], _ => ⟨[], rfl, by simp⟩
  | x :: es, h => by
    obtain ⟨p, rfl, hp⟩ := axFit x (h x (by simp))
    obtain ⟨l, rfl, hl⟩ := axsFit es fun y hy => h y (by simp [hy])
    exact ⟨p :: l, rfl, by simpa using ⟨hp, hl⟩⟩
def axS : Bool × List Sh := (false, [.sl 96 [U8', I64', I64', I64', I64', I64', I64', I64', I64', .sl 16 [I64', I64']]])
theorem axsArg {r : List (Bool × List Sh)} {xs : List AV} (h : ArgsFit (axS :: r) xs) : ∃ (v : List Ax) (ex : Bool) (l : List AV), xs = .rsl (axs v) ex :: l ∧ (∀ p ∈ v, 0 ≤ p.kind ∧ p.kind ≤ 255) ∧ v.length ≤ maxLen ∧ ArgsFit r l := by
  obtain ⟨a, l, rfl, h1, h2⟩ := argF h
  obtain ⟨es, ex, bs, e, h3, _, hm, h4⟩ := fitL h1
  cases e
  obtain ⟨v, rfl, hv⟩ := axsFit es h3
  exact ⟨v, ex, l, rfl, hv, by rwa [axs_len] at hm, h2⟩
theorem intArg' {k : IntKind} {r : List (Bool × List Sh)} {xs : List AV} (h : ArgsFit ((false, [.int k]) :: r) xs) : ∃ (n : Int) (l : List AV), xs = .val (.int k n) :: l ∧ (Lit.int k n).wf = true ∧ ArgsFit r l := by
  obtain ⟨a, l, rfl, h1, h2⟩ := argF h
  obtain ⟨n, bs, e, h3, h4⟩ := fitK h1
  cases e
  exact ⟨n, l, rfl, h3, h2⟩

def sh7 : List (Bool × List Sh) := [(false, [I64']), axS]
theorem law7 : ∀ xs, ArgsFit sh7 xs → ACalls Try.prog 7 xs [] fun v _ => v = .val (.bool true) := by
  intro xs h0
  obtain ⟨c, l, rfl, hc, h1⟩ := intArg' h0
  obtain ⟨v, ex, l, rfl, hv, hm, h2⟩ := axsArg h1
  obtain rfl := arg0 h2
  exact BufferPlays_ok [] c v ex hm hv

end Go.Proofs.Ytlhchnnfgppneaa.Ab
