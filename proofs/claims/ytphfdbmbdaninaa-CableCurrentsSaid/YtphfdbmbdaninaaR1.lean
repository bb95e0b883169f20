/- What the arguments of a call are, told cell by cell. -/
import Derived.Test.YtphfdbmbdaninaaR0
namespace Go.Proofs.Ytphfdbmbdaninaa.Ab
open Go Go.RowKit

abbrev I : Sh := .int .i64

theorem fitK {k : IntKind} {s : List Sh} {as : List AV} (h : Fits (.int k :: s) as) : ∃ n bs, as = .val (.int k n) :: bs ∧ (Lit.int k n).wf = true ∧ Fits s bs := by
  cases h; exact ⟨_, _, rfl, by assumption, by assumption⟩
theorem fit0 {as : List AV} (h : Fits [] as) : as = [] := by cases h; rfl
theorem fitL {b : Nat} {e s : List Sh} {as : List AV} (h : Fits (.sl b e :: s) as) : ∃ es ex bs, as = .rsl es ex :: bs ∧ (∀ x ∈ es, Fits e x) ∧ es.length * b ≤ reachBytes ∧ es.length ≤ maxLen ∧ Fits s bs := by
  cases h; exact ⟨_, _, _, rfl, by assumption, by assumption, by assumption, by assumption⟩

/-- each row of a list is that of something -/
theorem fitMap {α : Type} {e : List Sh} (f : α → List AV) (hf : ∀ x, Fits e x → ∃ a, x = f a) : ∀ es : List (List AV), (∀ x ∈ es, Fits e x) → ∃ l : List α, es = l.map f
  | [], _ => ⟨[], rfl⟩
  | x :: es, h => by
    obtain ⟨a, rfl⟩ := hf x (h _ (by simp))
    obtain ⟨l, rfl⟩ := fitMap f hf es fun y hy => h y (by simp [hy])
    exact ⟨a :: l, rfl⟩

theorem argT {s : List Sh} {r : List (Bool × List Sh)} {as : List AV} (h : ArgsFit ((true, s) :: r) as) : ∃ bs l, as = .agg bs :: l ∧ Fits s bs ∧ ArgsFit r l := by
  match as, h with
  | .agg bs :: l, h => exact ⟨bs, l, rfl, h⟩
theorem argF {s : List Sh} {r : List (Bool × List Sh)} {as : List AV} (h : ArgsFit ((false, s) :: r) as) : ∃ a l, as = a :: l ∧ Fits s [a] ∧ ArgsFit r l := by
  match as, h with
  | a :: l, h => exact ⟨a, l, rfl, h⟩
theorem arg0 {as : List AV} (h : ArgsFit [] as) : as = [] := by
  match as, h with
  | [], _ => rfl

end Go.Proofs.Ytphfdbmbdaninaa.Ab
