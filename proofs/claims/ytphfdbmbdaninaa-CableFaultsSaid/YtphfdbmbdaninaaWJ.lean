/- Cables: what arguments are. -/
import Derived.Test.YtphfdbmbdaninaaWM
import Derived.Test.YtphfdbmbdaninaaKR
namespace Go.Proofs.Ytphfdbmbdaninaa.Ab
open Go Go.RowKit Go.Proofs
set_option linter.unusedSimpArgs false
set_option linter.unusedVariables false
attribute [local irreducible] Awp wpO thenQ blockQ bodyQ ACalls stepA

theorem ndFit (x : List AV) (h : Fits [I, I, I, I, I, I, I, I] x) : ∃ n : Nd, x = n.cs := by
  obtain ⟨a, _, rfl, _, h⟩ := fitK h
  obtain ⟨b, _, rfl, _, h⟩ := fitK h
  obtain ⟨c, _, rfl, _, h⟩ := fitK h
  obtain ⟨d, _, rfl, _, h⟩ := fitK h
  obtain ⟨e, _, rfl, _, h⟩ := fitK h
  obtain ⟨f, _, rfl, _, h⟩ := fitK h
  obtain ⟨g, _, rfl, _, h⟩ := fitK h
  obtain ⟨k, _, rfl, _, h⟩ := fitK h
  obtain rfl := fit0 h
  exact ⟨⟨a, b, c, d, e, f, g, k⟩, rfl⟩

def cbS : Bool × List Sh := (true, [I, I, .sl 64 [I, I, I, I, I, I, I, I]])
theorem cbArg {r : List (Bool × List Sh)} {xs : List AV} (h : ArgsFit (cbS :: r) xs) : ∃ (c : Cb) (l : List AV), xs = .agg c.cs :: l ∧ ArgsFit r l := by
  obtain ⟨bs, l, rfl, h1, h2⟩ := argT h
  obtain ⟨a, _, rfl, _, h1⟩ := fitK h1
  obtain ⟨b, _, rfl, _, h1⟩ := fitK h1
  obtain ⟨es, ex, bs, rfl, h3, _, _, h4⟩ := fitL h1
  obtain ⟨s, rfl⟩ := fitMap Nd.cs ndFit es h3
  obtain rfl := fit0 h4
  exact ⟨⟨⟨a, b⟩, s, ex⟩, l, rfl, h2⟩

abbrev U8 : Sh := .int .u8
abbrev U16 : Sh := .int .u16
theorem intArg {k : IntKind} {r : List (Bool × List Sh)} {xs : List AV} (h : ArgsFit ((false, [.int k]) :: r) xs) : ∃ (n : Int) (l : List AV), xs = .val (.int k n) :: l ∧ (Lit.int k n).wf = true ∧ ArgsFit r l := by
  obtain ⟨a, l, rfl, h1, h2⟩ := argF h
  obtain ⟨n, bs, e, h3, h4⟩ := fitK h1
  cases e
  exact ⟨n, l, rfl, h3, h2⟩
theorem wfK {k : IntKind} {n : Int} (h : (Lit.int k n).wf = true) : k.min ≤ n ∧ n ≤ k.max := by
  simpa [Lit.wf] using h
theorem wf8 {n : Int} (h : (Lit.int .u8 n).wf = true) : 0 ≤ n ∧ n ≤ 255 := wfK h
theorem wf16 {n : Int} (h : (Lit.int .u16 n).wf = true) : 0 ≤ n ∧ n ≤ 65535 := wfK h
/-- numbers of another kind -/
def kints (k : IntKind) (v : List Int) : List (List AV) := v.map fun x => [.val (.int k x)]
theorem kints_len (k : IntKind) (v : List Int) : (kints k v).length = v.length := by simp [kints]
theorem kintsFit {k : IntKind} : ∀ (es : List (List AV)), (∀ x ∈ es, Fits [.int k] x) → ∃ v : List Int, es = kints k v ∧ ∀ x ∈ v, (Lit.int k x).wf = true
  | [], _ => ⟨[], rfl, by simp⟩
  | x :: es, h => by
    obtain ⟨a, bs, rfl, h2, h3⟩ := fitK (h x (by simp))
    obtain rfl := fit0 h3
    obtain ⟨v, rfl, hv⟩ := kintsFit es fun y hy => h y (by simp [hy])
    exact ⟨a :: v, rfl, by simpa using ⟨h2, hv⟩⟩
theorem kintsArg {k : IntKind} {b : Nat} {r : List (Bool × List Sh)} {xs : List AV} (h : ArgsFit ((false, [.sl b [.int k]]) :: r) xs) : ∃ (v : List Int) (ex : Bool) (l : List AV), xs = .rsl (kints k v) ex :: l ∧ (∀ x ∈ v, (Lit.int k x).wf = true) ∧ v.length ≤ maxLen ∧ ArgsFit r l := by
  obtain ⟨a, l, rfl, h1, h2⟩ := argF h
  obtain ⟨es, ex, bs, e, h3, _, hm, h4⟩ := fitL h1
  cases e
  obtain ⟨v, rfl, hv⟩ := kintsFit es h3
  exact ⟨v, ex, l, rfl, hv, by rwa [kints_len] at hm, h2⟩

theorem ifOk_map {α β : Type} (c : Cb) (f : α → β) (v : List α) : ifOk c (v.map f) = (ifOk c v).map f := by unfold ifOk; split <;> rfl
theorem ifOk_len {α : Type} {c : Cb} (hL : ¬ c.long) {v : List α} (h : v.length = c.l.length) : (ifOk c v).length ≤ maxLen := by
  unfold ifOk
  split
  · rename_i hc
    have := (good_of hL hc).h.2.1
    simp only [maxLen]; omega
  · simp

theorem intFit (x : List AV) (h : Fits [I] x) : ∃ n : Int, x = [iv n] := by
  obtain ⟨a, _, rfl, _, h⟩ := fitK h
  obtain rfl := fit0 h
  exact ⟨a, rfl⟩
theorem intsArg {r : List (Bool × List Sh)} {xs : List AV} (h : ArgsFit ((false, [.sl 8 [I]]) :: r) xs) : ∃ (v : List Int) (ex : Bool) (l : List AV), xs = .rsl (ints v) ex :: l ∧ v.length ≤ maxLen ∧ ArgsFit r l := by
  obtain ⟨a, l, rfl, h1, h2⟩ := argF h
  obtain ⟨es, ex, bs, e, h3, _, hm, h4⟩ := fitL h1
  cases e
  obtain ⟨s, rfl⟩ := fitMap (fun x : Int => [iv x]) intFit es h3
  exact ⟨s, ex, l, rfl, by rwa [List.length_map] at hm, h2⟩

end Go.Proofs.Ytphfdbmbdaninaa.Ab
