/- Buffers: the law BufferBursts, for all arguments. -/
import Derived.Test.YtlhchnnfgppneaaO4
import Derived.Test.YtlhchnnfgppneaaKR
namespace Go.Proofs.Ytlhchnnfgppneaa.Ab
open Go Go.RowKit Go.Proofs
set_option linter.unusedSimpArgs false
set_option linter.unusedVariables false
attribute [local irreducible] Awp wpO thenQ blockQ bodyQ ACalls stepA

abbrev U8 : Sh := .int .u8
abbrev U16 : Sh := .int .u16
theorem wfKb {k : IntKind} {n : Int} (h : (Lit.int k n).wf = true) : k.min ≤ n ∧ n ≤ k.max := by simpa [Lit.wf] using h
theorem pcFit (x : List AV) (h : Fits [U8, U8, U8, U8, U8] x) : ∃ p : Pc, x = p.cs ∧ p.in8 := by
  obtain ⟨a, _, rfl, ha, h⟩ := fitK h
  obtain ⟨b, _, rfl, hb, h⟩ := fitK h
  obtain ⟨c, _, rfl, hc, h⟩ := fitK h
  obtain ⟨d, _, rfl, hd, h⟩ := fitK h
  obtain ⟨e, _, rfl, he, h⟩ := fitK h
  obtain rfl := fit0 h
  exact ⟨⟨a, b, c, d, e⟩, rfl, wfKb ha, wfKb hb, wfKb hc, wfKb hd, wfKb he⟩
theorem pcsFit : ∀ (es : List (List AV)), (∀ x ∈ es, Fits [U8, U8, U8, U8, U8] x) → ∃ l : List Pc, es = pcs l ∧ ∀ p ∈ l, p.in8
  | [], _ => ⟨[], rfl, by simp⟩
  | x :: es, h => by
    obtain ⟨p, rfl, hp⟩ := pcFit x (h x (by simp))
    obtain ⟨l, rfl, hl⟩ := pcsFit es fun y hy => h y (by simp [hy])
    exact ⟨p :: l, rfl, by simpa using ⟨hp, hl⟩⟩
theorem bsFit (x : List AV) (h : Fits [U8, U8, U8] x) : ∃ p : Bs, x = p.cs ∧ p.in8 := by
  obtain ⟨a, _, rfl, ha, h⟩ := fitK h
  obtain ⟨b, _, rfl, hb, h⟩ := fitK h
  obtain ⟨c, _, rfl, hc, h⟩ := fitK h
  obtain rfl := fit0 h
  exact ⟨⟨a, b, c⟩, rfl, wfKb ha, wfKb hb, wfKb hc⟩
theorem bssFit : ∀ (es : List (List AV)), (∀ x ∈ es, Fits [U8, U8, U8] x) → ∃ l : List Bs, es = bss l ∧ ∀ p ∈ l, p.in8
  | [], _ => ⟨[], rfl, by simp⟩
  | x :: es, h => by
    obtain ⟨p, rfl, hp⟩ := bsFit x (h x (by simp))
    obtain ⟨l, rfl, hl⟩ := bssFit es fun y hy => h y (by simp [hy])
    exact ⟨p :: l, rfl, by simpa using ⟨hp, hl⟩⟩
def pcS : Bool × List Sh := (false, [.sl 5 [U8, U8, U8, U8, U8]])
theorem pcsArg {r : List (Bool × List Sh)} {xs : List AV} (h : ArgsFit (pcS :: r) xs) : ∃ (v : List Pc) (ex : Bool) (l : List AV), xs = .rsl (pcs v) ex :: l ∧ (∀ p ∈ v, p.in8) ∧ v.length ≤ maxLen ∧ ArgsFit r l := by
  obtain ⟨a, l, rfl, h1, h2⟩ := argF h
  obtain ⟨es, ex, bs, e, h3, _, hm, h4⟩ := fitL h1
  cases e
  obtain ⟨v, rfl, hv⟩ := pcsFit es h3
  exact ⟨v, ex, l, rfl, hv, by rwa [pcs_len] at hm, h2⟩
def bsS : Bool × List Sh := (false, [.sl 3 [U8, U8, U8]])
theorem bssArg {r : List (Bool × List Sh)} {xs : List AV} (h : ArgsFit (bsS :: r) xs) : ∃ (v : List Bs) (ex : Bool) (l : List AV), xs = .rsl (bss v) ex :: l ∧ (∀ p ∈ v, p.in8) ∧ v.length ≤ maxLen ∧ ArgsFit r l := by
  obtain ⟨a, l, rfl, h1, h2⟩ := argF h
  obtain ⟨es, ex, bs, e, h3, _, hm, h4⟩ := fitL h1
  cases e
  obtain ⟨v, rfl, hv⟩ := bssFit es h3
  exact ⟨v, ex, l, rfl, hv, by rwa [bss_len] at hm, h2⟩
theorem intArgB {k : IntKind} {r : List (Bool × List Sh)} {xs : List AV} (h : ArgsFit ((false, [.int k]) :: r) xs) : ∃ (n : Int) (l : List AV), xs = .val (.int k n) :: l ∧ (Lit.int k n).wf = true ∧ ArgsFit r l := by
  obtain ⟨a, l, rfl, h1, h2⟩ := argF h
  obtain ⟨n, bs, e, h3, h4⟩ := fitK h1
  cases e
  exact ⟨n, l, rfl, h3, h2⟩

def sh6 : List (Bool × List Sh) := [(false, [U16]), pcS, bsS]
theorem law6 : ∀ xs, ArgsFit sh6 xs → ACalls Try.prog 6 xs [] fun v _ => v = .val (.bool true) := by
  intro xs h0
  obtain ⟨c, l, rfl, hc, h1⟩ := intArgB h0
  obtain ⟨v, ex, l, rfl, hv, hm, h2⟩ := pcsArg h1
  obtain ⟨b, ex2, l, rfl, hb, hbm, h3⟩ := bssArg h2
  obtain rfl := arg0 h3
  have h16 := wfKb hc
  exact BufferBursts_ok [] c h16.1 h16.2 v ex hv hm b ex2 hb hbm

end Go.Proofs.Ytlhchnnfgppneaa.Ab
