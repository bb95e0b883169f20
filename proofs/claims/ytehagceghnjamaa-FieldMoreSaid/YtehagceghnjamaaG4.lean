/- Fields: two observations that contradict each other do so alone. -/
import Derived.Test.YtehagceghnjamaaG3
namespace Go.Proofs.Ytehagceghnjamaa.Ab
open Go Go.RowKit Go.Proofs
set_option linter.unusedSimpArgs false
set_option linter.unusedVariables false
attribute [local irreducible] Awp wpO thenQ blockQ bodyQ ACalls stepA

theorem stopR {P : Program} {n : Nat} {rd : Option Nat} {id : Nat} {ops : Array Oper} {b : Bool} {T : Env} {H : Hp} {Q : Exit → Env → Hp → Prop} (h : Awp P n rd (.region id ops b) T H Q) : Awp P n rd (.region id ops b) T H Q := h
theorem stopS {P : Program} {n : Nat} {rd : Option Nat} {id : Nat} {ops : Array Oper} {b : Bool} {c : Code} {T : Env} {H : Hp} {Q : Exit → Env → Hp → Prop} (h : Awp P n rd (.seq (.region id ops b) c) T H Q) : Awp P n rd (.seq (.region id ops b) c) T H Q := h

theorem con_some {f : Fd} {l : List Seen} {i k : Nat} (h : con f l = some (i, k)) : (i = k ∧ i < l.length ∧ conOne f l i = true) ∨ (i < l.length ∧ k < l.length ∧ (∀ j, j < l.length → conOne f l j = false) ∧ conTwo f l i k = true) := by
  unfold con at h
  split at h
  · rename_i j hj
    cases h
    obtain ⟨h1, _, h3, _⟩ := find_some hj
    exact .inl ⟨rfl, by omega, h1⟩
  · rename_i hn
    obtain ⟨h1, _, h3, h4⟩ := find2_some h
    exact .inr ⟨by omega, h4, fun j hj => find_none hn j (by omega) (by omega), h1⟩

theorem away_self (f : Fd) (x : Spot) : f.away x x = 0 := by
  simp [Fd.away, absZ]

theorem conTwo_self {f : Fd} {l : List Seen} (hl : f.seenOk l) {i : Nat} (hi : i < l.length) : conTwo f l i i = false := by
  obtain ⟨a, ha⟩ := nth hi
  have hg := (hl a (List.mem_of_getElem? ha)).small
  simp only [conTwo, getD_of ha, away_self]
  apply decide_eq_false
  omega

theorem con_one (f : Fd) (a : Seen) (hg : f.good a) : con f [a] = if conOne f [a] 0 = true then some (0, 0) else none := by
  have h2 : conTwo f [a] 0 0 = false := conTwo_self (l := [a]) (by simpa [Fd.seenOk] using hg) (by simp)
  simp only [con, List.length_singleton, find, find2, h2]
  cases conOne f [a] 0 <;> simp

theorem con_pair (f : Fd) (a b : Seen) (ha : f.good a) (h0 : conOne f [a, b] 0 = false) (h1 : conOne f [a, b] 1 = false) (h : conTwo f [a, b] 0 1 = true) : con f [a, b] = some (0, 1) := by
  have h2 : conTwo f [a, b] 0 0 = false := by
    have hs := ha.small
    simp only [conTwo, List.getD_cons_zero, away_self]
    apply decide_eq_false
    omega
  have e : [a, b].length = 2 := rfl
  simp only [con, e, find, find2, h0, h1, h2, h]
  simp

theorem code_of {f : Fd} {l m : List Seen} (h : f.code l = 0) (hm : ∀ x ∈ m, x ∈ l) (hl : m.length ≤ 64) : f.code m = 0 := by
  obtain ⟨h1, _, h3⟩ := code0 h
  unfold Fd.code
  rw [if_pos h1, if_neg (by omega)]
  exact if_pos fun x hx => h3 x (hm x hx)

theorem conE_of {f : Fd} {l : List Seen} {i k : Nat} (h : f.code l = 0) (hc : con f l = some (i, k)) : conE f l = ((i : Int), (k : Int), 0) := by
  simp only [conE, if_pos h, hc]
theorem conE_no {f : Fd} {l : List Seen} (h : f.code l = 0) (hc : con f l = none) : conE f l = (0, 0, 5) := by
  simp only [conE, if_pos h, hc]
theorem all_of {f : Fd} {l : List Seen} {i k : Nat} (h : f.code l = 0) (hc : con f l = some (i, k)) : f.all l = 16 := by
  simp only [Fd.all, if_pos h, hc]; simp
theorem all_no {f : Fd} {l : List Seen} (h : f.code l = 0) (hc : con f l = none) : f.all l = 0 := by
  simp only [Fd.all, if_pos h, hc]; simp

/-- one that contradicts the range -/
theorem alone {f : Fd} {l : List Seen} {i : Nat} {a : Seen} (h : f.code l = 0) (hc : con f l = some (i, i)) (ha : l[i]? = some a) :
    f.code [a] = 0 ∧ con f [a] = some (0, 0) := by
  have hmem := List.mem_of_getElem? ha
  obtain ⟨_, _, hl⟩ := code0 h
  have hcode := code_of (m := [a]) h (by simpa using hmem) (by simp)
  refine ⟨hcode, ?_⟩
  rcases con_some hc with ⟨_, h1, h2⟩ | ⟨h1, _, _, h2⟩
  · have : conOne f [a] 0 = true := by simp only [conOne, getD_of ha] at h2; exact h2
    rw [con_one f a (hl a hmem), if_pos this]
  · rw [conTwo_self hl h1] at h2; cases h2

/-- two that contradict each other -/
theorem both {f : Fd} {l : List Seen} {i k : Nat} {a b : Seen} (h : f.code l = 0) (hc : con f l = some (i, k)) (hik : i ≠ k) (ha : l[i]? = some a) (hb : l[k]? = some b) :
    f.code [a, b] = 0 ∧ con f [a, b] = some (0, 1) ∧ f.code [a] = 0 ∧ con f [a] = none := by
  have hma := List.mem_of_getElem? ha
  have hmb := List.mem_of_getElem? hb
  obtain ⟨_, _, hl⟩ := code0 h
  have hcode := code_of (m := [a, b]) h (by simp [hma, hmb]) (by simp)
  have hcode1 := code_of (m := [a]) h (by simp [hma]) (by simp)
  rcases con_some hc with ⟨h0, _⟩ | ⟨h1, h2, h3, h4⟩
  · exact absurd h0 hik
  · have q1 : conOne f [a, b] 0 = false := by have := h3 i h1; simp only [conOne, getD_of ha] at this; exact this
    have q2 : conOne f [a, b] 1 = false := by have := h3 k h2; simp only [conOne, getD_of hb] at this; exact this
    have q3 : conTwo f [a, b] 0 1 = true := by simp only [conTwo, getD_of ha, getD_of hb] at h4; exact h4
    have q4 : conOne f [a] 0 = false := by have := h3 i h1; simp only [conOne, getD_of ha] at this; exact this
    refine ⟨hcode, con_pair f a b (hl a hma) q1 q2 q3, hcode1, ?_⟩
    rw [con_one f a (hl a hma), if_neg (by simp [q4])]

end Go.Proofs.Ytehagceghnjamaa.Ab
