/- Fields: questions and their answers, in plain words: narrower sets change no answer Yes or No. -/
import Derived.Test.YtehagceghnjamaaL7
namespace Go.Proofs.Ytehagceghnjamaa.Ab
open Go Go.RowKit Go.Proofs
set_option linter.unusedVariables false

/-- a part of a question -/
structure Part where
  k : Int
  a : Spot
  b : Spot
  r : List Int
  ex : Bool
  lim : Int
def Part.cs (p : Part) : List AV := [iv p.k, iv p.a.m, iv p.a.c, iv p.b.m, iv p.b.c, .rsl (ints p.r) p.ex, iv p.lim]

def partOk (f : Fd) (p : Part) : Prop := (-1073741824 ≤ p.lim ∧ p.lim ≤ 1073741824) ∧ (if p.k = 2 then f.has p.a ∧ f.has p.b else if p.k = 1 then f.has p.a else if p.k = 3 then regOk f p.r ∧ 0 ≤ p.a.m ∧ p.a.m ≤ f.last else 4 ≤ p.k ∧ p.k ≤ 6)
instance (f : Fd) (p : Part) : Decidable (partOk f p) := by unfold partOk; infer_instance

def aboveV (s : Sp) (lim : Int) : Int := if s.lo > lim then 2 else if s.hi ≤ lim then 0 else 1
def moreS (f : Fd) (l : List Seen) (a b : Spot) : Sp := ⟨max ((setOf f l a).lo - (setOf f l b).hi) (-f.away a b), min ((setOf f l a).hi - (setOf f l b).lo) (f.away a b)⟩

/-- one part: the stack with its top ahead; none: the question has no answer -/
def stepQ (f : Fd) (l : List Seen) (p : Part) (st : List Int) : Option (List Int) :=
  if p.k = 1 then some (aboveV (setOf f l p.a) p.lim :: st)
  else if p.k = 2 then some (aboveV (moreS f l p.a p.b) p.lim :: st)
  else if p.k = 3 then some (aboveV (contS f l p.r p.a.m) p.lim :: st)
  else if p.k = 4 then match st with
    | x :: t => some ((2 - x) :: t)
    | [] => none
  else match st with
    | x :: y :: t => some ((if p.k = 5 then min x y else max x y) :: t)
    | _ => none

def runQ (f : Fd) (l : List Seen) : List Part → List Int → Option (List Int)
  | [], st => some st
  | p :: q, st => match stepQ f l p st with
    | some st' => runQ f l q st'
    | none => none

/-- what Ask returns -/
def askE (f : Fd) (l : List Seen) (q : List Part) : Int × Int :=
  if f.all l = 0 then (if q.length > 32 then (0, 6) else if (∀ p ∈ q, partOk f p) then (match runQ f l q [] with
    | some [x] => (x, 0)
    | _ => (0, 21)) else (0, 2)) else (0, f.all l)

/-- an answer that is Open, or the same -/
def leA (a b : Int) : Prop := (a = 1 ∨ a = b) ∧ 0 ≤ a ∧ a ≤ 2 ∧ 0 ≤ b ∧ b ≤ 2
inductive Rel : List Int → List Int → Prop
  | nil : Rel [] []
  | cons {a b : Int} {s t : List Int} (h : leA a b) (k : Rel s t) : Rel (a :: s) (b :: t)

theorem above_mono {s s' : Sp} (h1 : s.lo ≤ s'.lo) (h2 : s'.hi ≤ s.hi) (h3 : s'.lo ≤ s'.hi) (lim : Int) : leA (aboveV s lim) (aboveV s' lim) := by
  unfold aboveV leA
  split <;> split <;> (try split) <;> (try split) <;> omega

section mono
variable {f : Fd} {l m : List Seen}

def Narrow (f : Fd) (l m : List Seen) : Prop := ∀ x, (setOf f l x).lo ≤ (setOf f m x).lo ∧ (setOf f m x).hi ≤ (setOf f l x).hi

theorem more_full (hf : f.ok) (hc : Cons f m) (a b : Spot) : (moreS f m a b).lo ≤ (moreS f m a b).hi := by
  have h1 := set_full hf hc a
  have h2 := set_full hf hc b
  have h3 := lo_lip hf m a b
  have h4 := hi_lip hf m b a
  rw [away_sym f b a] at h4
  have h5 := away_nonneg hf a b
  unfold moreS
  simp only
  omega

theorem step_rel (hf : f.ok) (hc : Cons f m) (hn : Narrow f l m) (p : Part) {s t : List Int} (h : Rel s t) :
    (stepQ f l p s = none ∧ stepQ f m p t = none) ∨ ∃ s' t', stepQ f l p s = some s' ∧ stepQ f m p t = some t' ∧ Rel s' t' := by
  unfold stepQ
  by_cases k1 : p.k = 1
  · rw [if_pos k1, if_pos k1]
    exact .inr ⟨_, _, rfl, rfl, .cons (above_mono (hn _).1 (hn _).2 (set_full hf hc _) _) h⟩
  rw [if_neg k1, if_neg k1]
  by_cases k2 : p.k = 2
  · rw [if_pos k2, if_pos k2]
    refine .inr ⟨_, _, rfl, rfl, .cons (above_mono ?_ ?_ (more_full hf hc _ _) _) h⟩
    · have := hn p.a
      have := hn p.b
      unfold moreS; simp only; omega
    · have := hn p.a
      have := hn p.b
      unfold moreS; simp only; omega
  rw [if_neg k2, if_neg k2]
  by_cases k3 : p.k = 3
  · rw [if_pos k3, if_pos k3]
    refine .inr ⟨_, _, rfl, rfl, .cons (above_mono ?_ ?_ ?_ _) h⟩
    · exact sumTo_mono _ fun i _ => (hn _).1
    · exact sumTo_mono _ fun i _ => (hn _).2
    · exact sumTo_mono _ fun i _ => set_full hf hc _
  rw [if_neg k3, if_neg k3]
  by_cases k4 : p.k = 4
  · rw [if_pos k4, if_pos k4]
    cases h with
    | nil => exact .inl ⟨rfl, rfl⟩
    | cons h k => exact .inr ⟨_, _, rfl, rfl, .cons (by unfold leA at h ⊢; omega) k⟩
  rw [if_neg k4, if_neg k4]
  cases h with
  | nil => exact .inl ⟨rfl, rfl⟩
  | cons h k =>
    cases k with
    | nil => exact .inl ⟨rfl, rfl⟩
    | cons h' k =>
      refine .inr ⟨_, _, rfl, rfl, .cons ?_ k⟩
      unfold leA at h h' ⊢
      split <;> omega

theorem run_rel (hf : f.ok) (hc : Cons f m) (hn : Narrow f l m) : ∀ (q : List Part) {s t : List Int}, Rel s t → (runQ f l q s = none ∧ runQ f m q t = none) ∨ ∃ s' t', runQ f l q s = some s' ∧ runQ f m q t = some t' ∧ Rel s' t'
  | [], s, t, h => .inr ⟨_, _, rfl, rfl, h⟩
  | p :: q, s, t, h => by
    unfold runQ
    rcases step_rel hf hc hn p h with ⟨e1, e2⟩ | ⟨s', t', e1, e2, h'⟩
    · rw [e1, e2]; exact .inl ⟨rfl, rfl⟩
    · rw [e1, e2]; exact run_rel hf hc hn q h'

/-- with narrower sets the error is the same, and an answer Yes or No stays -/
theorem ask_rel (hl : f.all l = 0) (hm : f.all m = 0) (hn : Narrow f l m) (q : List Part) : (askE f l q).2 = (askE f m q).2 ∧ ((askE f l q).2 ≠ 0 ∨ (askE f l q).1 = 1 ∨ (askE f l q).1 = (askE f m q).1) := by
  obtain ⟨hc, hcm⟩ := all_iff.1 hm
  have hf := (code0 hc).1
  unfold askE
  rw [if_pos hl, if_pos hm]
  by_cases h1 : q.length > 32
  · rw [if_pos h1, if_pos h1]; exact ⟨rfl, .inl (by simp)⟩
  rw [if_neg h1, if_neg h1]
  by_cases h2 : ∀ p ∈ q, partOk f p
  · rw [if_pos h2, if_pos h2]
    rcases run_rel hf hcm hn q Rel.nil with ⟨e1, e2⟩ | ⟨s', t', e1, e2, h'⟩
    · rw [e1, e2]; exact ⟨rfl, .inl (by simp)⟩
    · rw [e1, e2]
      cases h' with
      | nil => exact ⟨rfl, .inl (by simp)⟩
      | cons h k =>
        cases k with
        | nil =>
          refine ⟨rfl, .inr ?_⟩
          exact h.1
        | cons => exact ⟨rfl, .inl (by simp)⟩
  · rw [if_neg h2, if_neg h2]; exact ⟨rfl, .inl (by simp)⟩

end mono

/-- the order of the observations does not matter, nor how often they are told -/
theorem narrow_of_mem {f : Fd} {l m : List Seen} (h : ∀ x ∈ l, x ∈ m) : Narrow f l m := fun x => by
  constructor
  · have := (setLo_le (f := f) (l := m) (x := x)).1 (Int.le_refl _)
    exact setLo_le.2 ⟨this.1, fun y hy => this.2 y (h y hy)⟩
  · have := (le_setHi (f := f) (l := m) (x := x)).1 (Int.le_refl _)
    exact le_setHi.2 ⟨this.1, fun y hy => this.2 y (h y hy)⟩

theorem cons_of_mem {f : Fd} {l m : List Seen} (h : ∀ x ∈ m, x ∈ l) (hc : Cons f l) : Cons f m :=
  ⟨fun y hy => hc.1 y (h y hy), fun y hy z hz => hc.2 y (h y hy) z (h z hz)⟩

end Go.Proofs.Ytehagceghnjamaa.Ab
