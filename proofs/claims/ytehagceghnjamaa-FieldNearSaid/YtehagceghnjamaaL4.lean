/- Fields: neighbouring spots and successive moments, told by the squares of differences. -/
import Derived.Test.YtehagceghnjamaaL3
namespace Go.Proofs.Ytehagceghnjamaa.Ab
open Go Go.RowKit Go.Proofs
set_option linter.unusedVariables false

def dX (f : Fd) (a b : Spot) : Int := a.c.tmod f.w - b.c.tmod f.w
def dY (f : Fd) (a b : Spot) : Int := a.c.tdiv f.w - b.c.tdiv f.w
def dT (a b : Spot) : Int := a.m - b.m
def sq (f : Fd) (a b : Spot) : Int := dX f a b * dX f a b + dY f a b * dY f a b + dT a b * dT a b

def nb (f : Fd) (v : List Int) (i k : Nat) : Prop := sq f (f.at i) (f.at k) = 1 → v.getD i 0 - v.getD k 0 ≤ f.away (f.at i) (f.at k) ∧ v.getD k 0 - v.getD i 0 ≤ f.away (f.at i) (f.at k)
def rngs (f : Fd) (v : List Int) : Prop := ∀ i, i < f.n → f.lo ≤ v.getD i 0 ∧ v.getD i 0 ≤ f.hi
def nbs (f : Fd) (v : List Int) : Prop := ∀ i, i < f.n → ∀ k, k < f.n → nb f v i k

theorem sq3 {f : Fd} (hf : f.ok) {m r q m' r' q' : Nat} (hq : (q : Int) < f.w) (hq' : (q' : Int) < f.w) :
    sq f (f.sp3 m r q) (f.sp3 m' r' q') = ((q : Int) - q') * (q - q') + ((r : Int) - r') * (r - r') + ((m : Int) - m') * (m - m') := by
  unfold sq dX dY dT
  simp only [Fd.sp3]
  rw [(coords hf r hq).1, (coords hf r hq).2, (coords hf r' hq').1, (coords hf r' hq').2]

theorem sq_near {f : Fd} (hf : f.ok) {x y : Spot} (hx : f.has x) (hy : y ∈ nears f x) : sq f x y = 1 := by
  obtain ⟨m, r, q, rfl, h1, h2, h3⟩ := sp3_of hf hx
  have hc := (coords hf r h3).1
  have z : ∀ n : Nat, ((n : Int) - n) * (n - n) = 0 := fun n => by rw [Int.sub_self]; rfl
  have o : ∀ n : Nat, ((n : Int) - ((n + 1 : Nat) : Int)) * (n - ((n + 1 : Nat) : Int)) = 1 := fun n => by
    rw [show (n : Int) - ((n + 1 : Nat) : Int) = -1 by omega]; rfl
  have key : y = f.sp3 m (r + 1) q ∨ y = f.sp3 (m + 1) r q ∨ ((((q + 1 : Nat) : Int) < f.w) ∧ y = f.sp3 m r (q + 1)) := by
    unfold nears near2 at hy
    rcases List.mem_append.1 hy with h | h
    · simp only [List.mem_cons, List.not_mem_nil, or_false] at h
      rcases h with rfl | rfl
      · left
        simp only [Fd.sp3, Spot.mk.injEq, true_and]
        rw [Int.natCast_succ, Int.add_mul, Int.one_mul]; omega
      · right; left
        simp only [Fd.sp3, Spot.mk.injEq, and_true]
        omega
    · right; right
      split at h
      · rename_i hif
        simp only [List.mem_singleton] at h
        subst h
        simp only [Fd.sp3] at hif
        rw [hc] at hif
        refine ⟨by omega, ?_⟩
        simp only [Fd.sp3, Spot.mk.injEq, true_and]
        omega
      · cases h
  rcases key with rfl | rfl | ⟨hq, rfl⟩
  · rw [sq3 hf h3 h3, z, z, o]; rfl
  · rw [sq3 hf h3 h3, z, z, o]; rfl
  · rw [sq3 hf h3 hq, z, z, o]; rfl

theorem poss_near {f : Fd} (hf : f.ok) {v : List Int} : poss f v ↔ rngs f v ∧ nbs f v := by
  have hrg := hf.rng
  constructor
  · intro h
    obtain ⟨hR, hL⟩ := (poss_iff hf).1 h
    refine ⟨fun i hi => (h i hi).1, fun i hi k hk _ => ?_⟩
    have hx := Fd.at_has hf hi
    have hy := Fd.at_has hf hk
    have l1 := hL _ _ hx hy
    have l2 := hL _ _ hy hx
    rw [num_at hf hi, num_at hf hk] at l1 l2
    rw [away_sym f (f.at k)] at l2
    exact ⟨l1, l2⟩
  · rintro ⟨hR, hN⟩ k hk
    refine ⟨hR k hk, fun y hy hh => ?_⟩
    have hx := Fd.at_has hf hk
    obtain ⟨_, hn, hat⟩ := hh.num hf
    have h1 := hN k hk (f.num y) hn
    unfold nb at h1
    rw [hat] at h1
    have h2 := h1 (sq_near hf hx hy)
    have r1 := hR k hk
    have r2 := hR _ hn
    rw [w64 (by omega) (by omega)]
    omega

end Go.Proofs.Ytehagceghnjamaa.Ab
