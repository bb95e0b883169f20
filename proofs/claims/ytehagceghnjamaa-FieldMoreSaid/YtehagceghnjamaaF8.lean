/- Fields: the set of a spot; one round of chart's loop over all spots. -/
import Derived.Test.YtehagceghnjamaaF7
namespace Go.Proofs.Ytehagceghnjamaa.Ab
open Go Go.RowKit Go.Proofs
set_option linter.unusedSimpArgs false
set_option linter.unusedVariables false
attribute [local irreducible] Awp wpO thenQ blockQ bodyQ ACalls stepA

def stepS (f : Fd) (x : Spot) (s : Sp) (y : Seen) : Sp := ⟨max s.lo (y.lo - f.away x y.spot), min s.hi (y.hi + f.away x y.spot)⟩
def setN (f : Fd) (l : List Seen) (x : Spot) (i : Nat) : Sp := (l.take i).foldl (stepS f x) ⟨f.lo, f.hi⟩
/-- the set of a spot -/
def setOf (f : Fd) (l : List Seen) (x : Spot) : Sp := l.foldl (stepS f x) ⟨f.lo, f.hi⟩

theorem setN_succ {f : Fd} {l : List Seen} {x : Spot} {i : Nat} {a : Seen} (h : l[i]? = some a) : setN f l x (i + 1) = stepS f x (setN f l x i) a := by
  unfold setN
  rw [List.take_add_one, h, List.foldl_append]
  rfl

theorem setN_end {f : Fd} {l : List Seen} {x : Spot} {i : Nat} (h : l.length ≤ i) : setN f l x i = setOf f l x := by
  unfold setN setOf
  rw [List.take_of_length_le h]

theorem Fd.good.small {f : Fd} {a : Seen} (h : f.good a) : a.lo ≤ a.hi ∧ -1073741824 ≤ a.lo ∧ a.hi ≤ 1073741824 := by
  have h2 := h.2
  rw [Sp.bad_iff] at h2
  simp only [Seen.set] at h2
  omega

theorem foldS_in {f : Fd} (hf : f.ok) {x : Spot} (hx : f.has x) : ∀ (l : List Seen) (s : Sp), (∀ a ∈ l, f.good a) → -16777216 ≤ s.lo → s.lo ≤ 1073741824 → -1073741824 ≤ s.hi → s.hi ≤ 16777216 →
    -16777216 ≤ (l.foldl (stepS f x) s).lo ∧ (l.foldl (stepS f x) s).lo ≤ 1073741824 ∧ -1073741824 ≤ (l.foldl (stepS f x) s).hi ∧ (l.foldl (stepS f x) s).hi ≤ 16777216
  | [], s, _, h1, h2, h3, h4 => ⟨h1, h2, h3, h4⟩
  | a :: l, s, hl, h1, h2, h3, h4 => by
    have hg := hl a (by simp)
    have hs := hg.small
    have hd := Fd.away_in hf hx hg.1
    refine foldS_in hf hx l _ (fun b hb => hl b (by simp [hb])) ?_ ?_ ?_ ?_ <;> simp only [stepS] <;> omega

theorem setN_in {f : Fd} (hf : f.ok) {x : Spot} (hx : f.has x) {l : List Seen} (hl : f.seenOk l) (i : Nat) :
    -16777216 ≤ (setN f l x i).lo ∧ (setN f l x i).lo ≤ 1073741824 ∧ -1073741824 ≤ (setN f l x i).hi ∧ (setN f l x i).hi ≤ 16777216 := by
  obtain ⟨_, _, _, _, _, _, _, _, _, _, k1, k2, k3⟩ := id hf
  exact foldS_in hf hx _ _ (fun a ha => hl a (List.mem_of_mem_take ha)) (by simp; omega) (by simp; omega) (by simp; omega) (by simp; omega)

theorem Fd.at_has {f : Fd} (hf : f.ok) {n : Nat} (hn : n < f.n) : f.has (f.at n) := by
  have hc := hf.cells
  have hk := hf.nn
  have h1 : 0 ≤ f.last ∧ f.last < 8 := ⟨hf.2.2.2.2.1, hf.2.2.2.2.2.1⟩
  have q1 := Int.tdiv_eq_ediv_of_nonneg (a := (n : Int)) (b := f.cells) (by omega)
  have q2 := Int.tmod_eq_emod_of_nonneg (a := (n : Int)) (b := f.cells) (by omega)
  have q3 := Int.ediv_nonneg (a := (n : Int)) (b := f.cells) (by omega) (by omega)
  have q4 := Int.emod_nonneg (n : Int) (show f.cells ≠ 0 by omega)
  have q5 := Int.emod_lt_of_pos (n : Int) (show 0 < f.cells by omega)
  have q6 : (n : Int) / f.cells < f.last + 1 := Int.ediv_lt_of_lt_mul (by omega) (by omega)
  exact ⟨by unfold Fd.at; simp only; omega, by unfold Fd.at; simp only; omega, by unfold Fd.at; simp only; omega, by unfold Fd.at; simp only; omega⟩

/-- the sets of the first n spots -/
def setsUp (f : Fd) (l : List Seen) (n : Nat) : List Sp := (List.range n).map fun i => setOf f l (f.at i)
theorem setsUp_succ (f : Fd) (l : List Seen) (n : Nat) : setsUp f l (n + 1) = setsUp f l n ++ [setOf f l (f.at n)] := by
  unfold setsUp; rw [List.range_succ, List.map_append]; rfl

end Go.Proofs.Ytehagceghnjamaa.Ab
