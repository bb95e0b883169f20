/- Fields: distances; the sets of consistent observations, in plain words. -/
import Derived.Test.YtehagceghnjamaaG4
namespace Go.Proofs.Ytehagceghnjamaa.Ab
open Go Go.RowKit Go.Proofs
set_option linter.unusedVariables false

theorem absZ_tri (a b c : Int) : absZ (a - c) ≤ absZ (a - b) + absZ (b - c) := by unfold absZ; omega
theorem absZ_sym (a b : Int) : absZ (a - b) = absZ (b - a) := by unfold absZ; omega

theorem away_sym (f : Fd) (a b : Spot) : f.away a b = f.away b a := by
  unfold Fd.away
  rw [absZ_sym a.m, absZ_sym (a.c.tmod f.w), absZ_sym (a.c.tdiv f.w)]

theorem away_nonneg {f : Fd} (hf : f.ok) (a b : Spot) : 0 ≤ f.away a b := by
  obtain ⟨k1, k2, k3, k4, k5, k6, k7, k8, k9, k10, _⟩ := hf
  have a1 : 0 ≤ absZ (a.c.tmod f.w - b.c.tmod f.w) + absZ (a.c.tdiv f.w - b.c.tdiv f.w) := by unfold absZ; omega
  have m1 := Int.mul_nonneg k7 a1
  have m2 := Int.mul_nonneg k9 (show 0 ≤ absZ (a.m - b.m) by unfold absZ; omega)
  unfold Fd.away
  omega

theorem away_tri {f : Fd} (hf : f.ok) (a b c : Spot) : f.away a c ≤ f.away a b + f.away b c := by
  obtain ⟨k1, k2, k3, k4, k5, k6, k7, k8, k9, k10, _⟩ := hf
  have t1 := absZ_tri (a.c.tmod f.w) (b.c.tmod f.w) (c.c.tmod f.w)
  have t2 := absZ_tri (a.c.tdiv f.w) (b.c.tdiv f.w) (c.c.tdiv f.w)
  have t3 := absZ_tri a.m b.m c.m
  have m1 := Int.mul_le_mul_of_nonneg_left (show absZ (a.c.tmod f.w - c.c.tmod f.w) + absZ (a.c.tdiv f.w - c.c.tdiv f.w) ≤ (absZ (a.c.tmod f.w - b.c.tmod f.w) + absZ (a.c.tdiv f.w - b.c.tdiv f.w)) + (absZ (b.c.tmod f.w - c.c.tmod f.w) + absZ (b.c.tdiv f.w - c.c.tdiv f.w)) by omega) k7
  have m2 := Int.mul_le_mul_of_nonneg_left t3 k9
  have e1 := Int.mul_add f.sp (absZ (a.c.tmod f.w - b.c.tmod f.w) + absZ (a.c.tdiv f.w - b.c.tdiv f.w)) (absZ (b.c.tmod f.w - c.c.tmod f.w) + absZ (b.c.tdiv f.w - c.c.tdiv f.w))
  have e2 := Int.mul_add f.ch (absZ (a.m - b.m)) (absZ (b.m - c.m))
  rw [e1] at m1
  rw [e2] at m2
  unfold Fd.away
  omega

/-- what the lower end of a set is at most -/
theorem lo_le {f : Fd} {x : Spot} {B : Int} : ∀ (l : List Seen) (s : Sp), (l.foldl (stepS f x) s).lo ≤ B ↔ s.lo ≤ B ∧ ∀ y ∈ l, y.lo - f.away x y.spot ≤ B
  | [], s => by simp
  | y :: l, s => by
    rw [List.foldl_cons, lo_le l]
    simp only [stepS, List.mem_cons, forall_eq_or_imp]
    constructor
    · rintro ⟨h1, h2⟩; exact ⟨by omega, by omega, h2⟩
    · rintro ⟨h1, h2, h3⟩; exact ⟨by omega, h3⟩

theorem le_hi {f : Fd} {x : Spot} {B : Int} : ∀ (l : List Seen) (s : Sp), B ≤ (l.foldl (stepS f x) s).hi ↔ B ≤ s.hi ∧ ∀ y ∈ l, B ≤ y.hi + f.away x y.spot
  | [], s => by simp
  | y :: l, s => by
    rw [List.foldl_cons, le_hi l]
    simp only [stepS, List.mem_cons, forall_eq_or_imp]
    constructor
    · rintro ⟨h1, h2⟩; exact ⟨by omega, by omega, h2⟩
    · rintro ⟨h1, h2, h3⟩; exact ⟨by omega, h3⟩

theorem setLo_le {f : Fd} {l : List Seen} {x : Spot} {B : Int} : (setOf f l x).lo ≤ B ↔ f.lo ≤ B ∧ ∀ y ∈ l, y.lo - f.away x y.spot ≤ B := lo_le l _
theorem le_setHi {f : Fd} {l : List Seen} {x : Spot} {B : Int} : B ≤ (setOf f l x).hi ↔ B ≤ f.hi ∧ ∀ y ∈ l, B ≤ y.hi + f.away x y.spot := le_hi l _

/-- consistent observations, in plain words -/
def Cons (f : Fd) (l : List Seen) : Prop := (∀ y ∈ l, y.lo ≤ f.hi ∧ f.lo ≤ y.hi) ∧ ∀ y ∈ l, ∀ z ∈ l, y.lo - z.hi ≤ f.away y.spot z.spot

theorem getD_mem {α : Type} {l : List α} {i : Nat} {z : α} (h : i < l.length) : l.getD i z ∈ l := by
  rw [List.getD_eq_getElem?_getD, List.getElem?_eq_getElem h]
  exact List.getElem_mem h

theorem con_iff {f : Fd} {l : List Seen} : con f l = none ↔ Cons f l := by
  constructor
  · intro h
    unfold con at h
    split at h
    · cases h
    · rename_i hn
      refine ⟨fun y hy => ?_, fun y hy z hz => ?_⟩
      · obtain ⟨i, hi⟩ := List.getElem?_of_mem hy
        have := find_none hn i (by omega) (by have := (List.getElem?_eq_some_iff.1 hi).1; omega)
        simp only [conOne, getD_of hi, decide_eq_false_iff_not] at this
        omega
      · obtain ⟨i, hi⟩ := List.getElem?_of_mem hy
        obtain ⟨k, hk⟩ := List.getElem?_of_mem hz
        have := find2_none h i k (by omega) (by have := (List.getElem?_eq_some_iff.1 hi).1; omega) (List.getElem?_eq_some_iff.1 hk).1
        simp only [conTwo, getD_of hi, getD_of hk, decide_eq_false_iff_not] at this
        omega
  · rintro ⟨h1, h2⟩
    rcases hc : con f l with _ | ⟨i, k⟩
    · rfl
    · exfalso
      rcases con_some hc with ⟨_, h, h3⟩ | ⟨h, h', _, h3⟩
      · simp only [conOne, decide_eq_true_eq] at h3
        have := h1 _ (getD_mem (z := Seen.zero) h)
        omega
      · simp only [conTwo, decide_eq_true_eq] at h3
        have := h2 _ (getD_mem (z := Seen.zero) h) _ (getD_mem (z := Seen.zero) h')
        omega

theorem all_iff {f : Fd} {l : List Seen} : f.all l = 0 ↔ f.code l = 0 ∧ Cons f l := by
  constructor
  · intro h
    obtain ⟨h1, h2⟩ := all0 h
    exact ⟨h1, con_iff.1 h2⟩
  · rintro ⟨h1, h2⟩
    exact all_no h1 (con_iff.2 h2)

theorem Fd.ok.rng {f : Fd} (hf : f.ok) : f.lo ≤ f.hi ∧ -16777216 ≤ f.lo ∧ f.hi ≤ 16777216 := by
  obtain ⟨_, _, _, _, _, _, _, _, _, _, k1, k2, k3⟩ := hf
  exact ⟨by omega, by omega, by omega⟩

/-- each set has a value -/
theorem set_full {f : Fd} (hf : f.ok) {l : List Seen} (hc : Cons f l) (x : Spot) : (setOf f l x).lo ≤ (setOf f l x).hi := by
  have hr := hf.rng
  refine setLo_le.2 ⟨le_setHi.2 ⟨hr.1, fun z hz => ?_⟩, fun y hy => le_setHi.2 ⟨?_, fun z hz => ?_⟩⟩
  · have := (hc.1 z hz).2
    have := away_nonneg hf x z.spot
    omega
  · have := (hc.1 y hy).1
    have := away_nonneg hf x y.spot
    omega
  · have h1 := hc.2 y hy z hz
    have h2 := away_tri hf y.spot x z.spot
    have h3 := away_sym f y.spot x
    omega

/-- the ends of sets do not differ by more than the distance -/
theorem lo_lip {f : Fd} (hf : f.ok) (l : List Seen) (x y : Spot) : (setOf f l x).lo ≤ (setOf f l y).lo + f.away x y := by
  have h0 : (setOf f l y).lo ≤ (setOf f l y).lo := Int.le_refl _
  obtain ⟨h1, h2⟩ := setLo_le.1 h0
  refine setLo_le.2 ⟨by have := away_nonneg hf x y; omega, fun z hz => ?_⟩
  have := h2 z hz
  have := away_tri hf y x z.spot
  have := away_sym f y x
  omega

theorem hi_lip {f : Fd} (hf : f.ok) (l : List Seen) (x y : Spot) : (setOf f l x).hi - f.away x y ≤ (setOf f l y).hi := by
  have h0 : (setOf f l x).hi ≤ (setOf f l x).hi := Int.le_refl _
  obtain ⟨h1, h2⟩ := le_setHi.1 h0
  refine le_setHi.2 ⟨by have := away_nonneg hf x y; omega, fun z hz => ?_⟩
  have := h2 z hz
  have := away_tri hf x y z.spot
  omega

end Go.Proofs.Ytehagceghnjamaa.Ab
