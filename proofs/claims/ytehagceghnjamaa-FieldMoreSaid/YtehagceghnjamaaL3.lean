/- Fields: values that fit consistent observations; none fit others. -/
import Derived.Test.YtehagceghnjamaaK6
import Derived.Test.YtehagceghnjamaaL0
namespace Go.Proofs.Ytehagceghnjamaa.Ab
open Go Go.RowKit Go.Proofs
set_option linter.unusedVariables false

theorem fits_of {f : Fd} (hf : f.ok) {l : List Seen} (hl : f.seenOk l) {v : List Int} (hv : ∀ x, f.has x → (setOf f l x).lo ≤ v.getD (f.num x) 0 ∧ v.getD (f.num x) 0 ≤ (setOf f l x).hi) (hL : Lip f v) : fits f l v := by
  refine ⟨fun s hs hm => ?_, (poss_iff hf).2 ⟨fun x hx => ?_, hL⟩⟩
  · have h := hv s.spot (hl s hs).1
    have h1 := (setLo_le (f := f) (l := l) (x := s.spot)).1 (Int.le_refl _)
    have h2 := (le_setHi (f := f) (l := l) (x := s.spot)).1 (Int.le_refl _)
    have h3 := h1.2 s hs
    have h4 := h2.2 s hs
    rw [away_self] at h3 h4
    unfold miss at hm
    omega
  · have h := hv x hx
    have h1 := (setLo_le (f := f) (l := l) (x := x)).1 (Int.le_refl _)
    have h2 := (le_setHi (f := f) (l := l) (x := x)).1 (Int.le_refl _)
    omega

/-- values that fit: the observations are consistent -/
theorem cons_of_fits {f : Fd} (hf : f.ok) {l : List Seen} (hl : f.seenOk l) {v : List Int} (h : fits f l v) : Cons f l := by
  obtain ⟨hm, hp⟩ := h
  obtain ⟨hR, hL⟩ := (poss_iff hf).1 hp
  have hv : ∀ y ∈ l, y.lo ≤ v.getD (f.num y.spot) 0 ∧ v.getD (f.num y.spot) 0 ≤ y.hi := fun y hy => by
    have := hm y hy
    unfold miss at this
    omega
  refine ⟨fun y hy => ?_, fun y hy z hz => ?_⟩
  · have := hR _ (hl y hy).1
    have := hv y hy
    omega
  · have := hL _ _ (hl y hy).1 (hl z hz).1
    have := hv y hy
    have := hv z hz
    omega

/-- a value for each spot -/
def valsUp (V : Spot → Int) (f : Fd) (n : Nat) : List Int := (List.range n).map fun i => V (f.at i)
theorem valsUp_succ (V : Spot → Int) (f : Fd) (n : Nat) : valsUp V f (n + 1) = valsUp V f n ++ [V (f.at n)] := by
  unfold valsUp; rw [List.range_succ, List.map_append]; rfl
theorem valsUp_len (V : Spot → Int) (f : Fd) (n : Nat) : (valsUp V f n).length = n := by simp [valsUp]
theorem valsUp_get {V : Spot → Int} {f : Fd} (hf : f.ok) {x : Spot} (hx : f.has x) : (valsUp V f f.n).getD (f.num x) 0 = V x := by
  obtain ⟨_, h1, h2⟩ := hx.num hf
  rw [List.getD_eq_getElem?_getD, valsUp, List.getElem?_map, List.getElem?_range h1]
  simp [h2]

/-- halfway, rounded down, as the law computes it -/
def midOf (a b : Int) : Int := (a + b - ((a + b).tmod 2 + 2).tmod 2).tdiv 2

theorem midOf_eq (a b : Int) : midOf a b = (a + b) / 2 := by
  unfold midOf
  generalize a + b = m
  have h1 : m = 2 * m.tdiv 2 + m.tmod 2 := (Int.mul_tdiv_add_tmod m 2).symm
  have h2 := Int.tmod_lt_of_pos m (show (0 : Int) < 2 by decide)
  have h3 : -2 < m.tmod 2 := by
    have := Int.lt_tmod_of_pos m (show (0 : Int) < 2 by decide)
    omega
  have e1 : (m.tmod 2 + 2).tmod 2 = (m.tmod 2 + 2) % 2 := Int.tmod_eq_emod_of_nonneg (by omega)
  rw [e1]
  have h4 : (m.tmod 2 + 2) % 2 = m % 2 := by omega
  rw [h4]
  have h5 : m - m % 2 = 2 * (m / 2) := by omega
  rw [h5, Int.mul_tdiv_cancel_left _ (by decide)]

def loS (f : Fd) (l : List Seen) (x : Spot) : Int := (setOf f l x).lo
def hiS (f : Fd) (l : List Seen) (x : Spot) : Int := (setOf f l x).hi
def midS (f : Fd) (l : List Seen) (x : Spot) : Int := midOf (setOf f l x).lo (setOf f l x).hi

theorem fits_lo {f : Fd} (hf : f.ok) {l : List Seen} (hl : f.seenOk l) (hc : Cons f l) : fits f l (valsUp (loS f l) f f.n) := by
  refine fits_of hf hl (fun x hx => ?_) fun x y hx hy => ?_
  · rw [valsUp_get hf hx]
    exact ⟨Int.le_refl _, set_full hf hc x⟩
  · rw [valsUp_get hf hx, valsUp_get hf hy]
    have := lo_lip hf l x y
    unfold loS
    omega

theorem fits_hi {f : Fd} (hf : f.ok) {l : List Seen} (hl : f.seenOk l) (hc : Cons f l) : fits f l (valsUp (hiS f l) f f.n) := by
  refine fits_of hf hl (fun x hx => ?_) fun x y hx hy => ?_
  · rw [valsUp_get hf hx]
    exact ⟨set_full hf hc x, Int.le_refl _⟩
  · rw [valsUp_get hf hx, valsUp_get hf hy]
    have := hi_lip hf l x y
    unfold hiS
    omega

theorem fits_mid {f : Fd} (hf : f.ok) {l : List Seen} (hl : f.seenOk l) (hc : Cons f l) : fits f l (valsUp (midS f l) f f.n) := by
  refine fits_of hf hl (fun x hx => ?_) fun x y hx hy => ?_
  · rw [valsUp_get hf hx]
    have := set_full hf hc x
    unfold midS
    rw [midOf_eq]
    omega
  · rw [valsUp_get hf hx, valsUp_get hf hy]
    have h1 := lo_lip hf l x y
    have h2 := hi_lip hf l x y
    unfold midS
    rw [midOf_eq, midOf_eq]
    omega

end Go.Proofs.Ytehagceghnjamaa.Ab
