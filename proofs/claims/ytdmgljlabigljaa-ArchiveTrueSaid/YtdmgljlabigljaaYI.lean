/- Archive: the arguments of the laws; the law Versions for all arguments. -/
import Derived.Test.YtdmgljlabigljaaKR
import Derived.Test.YtdmgljlabigljaaYG
namespace Go.Proofs.Ytdmgljlabigljaa.Ab
open Go Go.RowKit Go.Proofs
set_option linter.unusedSimpArgs false
set_option linter.unusedVariables false
attribute [local irreducible] Awp wpO thenQ blockQ bodyQ ACalls stepA

theorem fitStr {s : List Sh} {l : List AV} (h : Fits (.str :: s) l) : ∃ x bs, l = .val (.string x) :: bs ∧ Fits s bs := by
  cases h with | str hx h => exact ⟨_, _, rfl, h⟩
abbrev serSh : List Sh := [.str, .int .i64, .int .i64]
abbrev entSh : List Sh := [.int .i64, .int .i64, .int .i64, .int .i64, .int .i64, .int .i64, .int .i64, .int .i64, .str]
theorem serFit (x : List AV) (h : Fits serSh x) : ∃ p : Ser, x = p.cs := by
  obtain ⟨a, _, rfl, k⟩ := fitStr h
  obtain ⟨b, _, rfl, hb, h⟩ := fitK k
  obtain ⟨c, _, rfl, hc, h⟩ := fitK h
  obtain rfl := fit0 h
  exact ⟨⟨a, b, c⟩, rfl⟩
theorem sersFit : ∀ (es : List (List AV)), (∀ x ∈ es, Fits serSh x) → ∃ l : List Ser, es = sers l
  | [], _ => ⟨[], rfl⟩
  | x :: es, h => by
    obtain ⟨p, rfl⟩ := serFit x (h x (by simp))
    obtain ⟨l, rfl⟩ := sersFit es fun y hy => h y (by simp [hy])
    exact ⟨p :: l, rfl⟩
theorem entFit (x : List AV) (h : Fits entSh x) : ∃ p : Ent, x = p.cs := by
  obtain ⟨a, _, rfl, _, h⟩ := fitK h
  obtain ⟨b, _, rfl, _, h⟩ := fitK h
  obtain ⟨c, _, rfl, _, h⟩ := fitK h
  obtain ⟨d, _, rfl, _, h⟩ := fitK h
  obtain ⟨e, _, rfl, _, h⟩ := fitK h
  obtain ⟨f, _, rfl, _, h⟩ := fitK h
  obtain ⟨g, _, rfl, _, h⟩ := fitK h
  obtain ⟨i, _, rfl, _, h⟩ := fitK h
  obtain ⟨j, _, rfl, k⟩ := fitStr h
  obtain rfl := fit0 k
  exact ⟨⟨a, b, c, d, e, f, g, i, j⟩, rfl⟩
theorem entsFit : ∀ (es : List (List AV)), (∀ x ∈ es, Fits entSh x) → ∃ l : List Ent, es = ents l
  | [], _ => ⟨[], rfl⟩
  | x :: es, h => by
    obtain ⟨p, rfl⟩ := entFit x (h x (by simp))
    obtain ⟨l, rfl⟩ := entsFit es fun y hy => h y (by simp [hy])
    exact ⟨p :: l, rfl⟩
theorem sersArg {r : List (Bool × List Sh)} {xs : List AV} (h : ArgsFit ((false, [.sl 32 serSh]) :: r) xs) : ∃ (v : List Ser) (ex : Bool) (l : List AV), xs = .rsl (sers v) ex :: l ∧ v.length ≤ maxLen ∧ ArgsFit r l := by
  obtain ⟨a, l, rfl, h1, h2⟩ := argF h
  obtain ⟨es, ex, bs, e, h3, _, hm, h4⟩ := fitL h1
  cases e
  obtain ⟨v, rfl⟩ := sersFit es h3
  exact ⟨v, ex, l, rfl, by rwa [sers_len] at hm, h2⟩
theorem entsArg {r : List (Bool × List Sh)} {xs : List AV} (h : ArgsFit ((false, [.sl 80 entSh]) :: r) xs) : ∃ (v : List Ent) (ex : Bool) (l : List AV), xs = .rsl (ents v) ex :: l ∧ v.length ≤ maxLen ∧ ArgsFit r l := by
  obtain ⟨a, l, rfl, h1, h2⟩ := argF h
  obtain ⟨es, ex, bs, e, h3, _, hm, h4⟩ := fitL h1
  cases e
  obtain ⟨v, rfl⟩ := entsFit es h3
  exact ⟨v, ex, l, rfl, by rwa [ents_len] at hm, h2⟩
theorem intArg {k : IntKind} {r : List (Bool × List Sh)} {xs : List AV} (h : ArgsFit ((false, [.int k]) :: r) xs) : ∃ (n : Int) (l : List AV), xs = .val (.int k n) :: l ∧ (Lit.int k n).wf = true ∧ ArgsFit r l := by
  obtain ⟨a, l, rfl, h1, h2⟩ := argF h
  obtain ⟨n, bs, e, h3, h4⟩ := fitK h1
  cases e
  exact ⟨n, l, rfl, h3, h2⟩

end Go.Proofs.Ytdmgljlabigljaa.Ab
