/- Fields: values made from the sets fit; their sums lie in the contents, and the differences of these in the changes. -/
import Derived.Test.YtehagceghnjamaaL3
import Derived.Test.YtehagceghnjamaaP3
namespace Go.Proofs.Ytehagceghnjamaa.Ab
open Go Go.RowKit Go.Proofs
set_option linter.unusedVariables false

def topOf (f : Fd) (l : List Seen) (s : Spot) (p : Int) : Int := (setOf f l s).lo + (((setOf f l s).hi - (setOf f l s).lo) * p).tdiv 255
/-- the least values, raised about one spot -/
def mixV (f : Fd) (l : List Seen) (s : Spot) (p : Int) (x : Spot) : Int := max (setOf f l x).lo (topOf f l s p - f.away s x)

section mix
variable {f : Fd} {l : List Seen} {s : Spot} {p : Int}

theorem top_in (hf : f.ok) (hc : Cons f l) (h0 : 0 ≤ p) (h1 : p ≤ 255) :
    0 ≤ ((setOf f l s).hi - (setOf f l s).lo) * p ∧ ((setOf f l s).hi - (setOf f l s).lo) * p ≤ ((setOf f l s).hi - (setOf f l s).lo) * 255 ∧ (setOf f l s).lo ≤ topOf f l s p ∧ topOf f l s p ≤ (setOf f l s).hi := by
  have hs := set_full hf hc s
  have m0 := Int.mul_nonneg (show 0 ≤ (setOf f l s).hi - (setOf f l s).lo by omega) h0
  have m1 := Int.mul_le_mul_of_nonneg_left h1 (show 0 ≤ (setOf f l s).hi - (setOf f l s).lo by omega)
  have e := Int.tdiv_eq_ediv_of_nonneg (b := 255) m0
  unfold topOf
  rw [e]
  exact ⟨m0, m1, by omega, by omega⟩

theorem mix_in (hf : f.ok) (hc : Cons f l) (h0 : 0 ≤ p) (h1 : p ≤ 255) (x : Spot) : (setOf f l x).lo ≤ mixV f l s p x ∧ mixV f l s p x ≤ (setOf f l x).hi := by
  have ht := top_in (s := s) hf hc h0 h1
  have hx := set_full hf hc x
  have hl := hi_lip hf l s x
  unfold mixV
  omega

theorem mix_lip (hf : f.ok) (x y : Spot) : mixV f l s p x - mixV f l s p y ≤ f.away x y := by
  have h1 := lo_lip hf l x y
  have h2 := away_tri hf s x y
  unfold mixV
  omega

theorem mix_fits (hf : f.ok) (hl : f.seenOk l) (hc : Cons f l) (h0 : 0 ≤ p) (h1 : p ≤ 255) : fits f l (valsUp (mixV f l s p) f f.n) := by
  refine fits_of hf hl (fun x hx => ?_) fun x y hx hy => ?_
  · rw [valsUp_get hf hx]
    exact mix_in hf hc h0 h1 x
  · rw [valsUp_get hf hx, valsUp_get hf hy]
    exact mix_lip hf x y

end mix

theorem sumTo_mono {g h : Nat → Int} : ∀ n, (∀ i, i < n → g i ≤ h i) → sumTo g n ≤ sumTo h n
  | 0, _ => by simp [sumTo]
  | n + 1, hi => by
    have ih := sumTo_mono n fun i h => hi i (by omega)
    have := hi n (by omega)
    unfold sumTo
    omega

theorem sumTo_sub (g h : Nat → Int) : ∀ n, sumTo (fun i => g i - h i) n = sumTo g n - sumTo h n
  | 0 => by simp [sumTo]
  | n + 1 => by
    have ih := sumTo_sub g h n
    unfold sumTo
    omega

theorem away_gap {f : Fd} {t u c : Int} (h : t ≤ u) : f.away ⟨t, c⟩ ⟨u, c⟩ = f.ch * (u - t) := by
  unfold Fd.away
  simp only [Int.sub_self]
  rw [show absZ 0 = 0 by simp [absZ], show absZ (t - u) = u - t by unfold absZ; omega]
  simp

/-- the sum of values over a region -/
def vSum (V : Spot → Int) (r : List Int) (t : Int) (i : Nat) : Int := sumTo (fun i => V ⟨t, r.getD i 0⟩) i

theorem vSum_in {f : Fd} {l : List Seen} {V : Spot → Int} (hV : ∀ x, (setOf f l x).lo ≤ V x ∧ V x ≤ (setOf f l x).hi) (r : List Int) (t : Int) : (contS f l r t).lo ≤ vSum V r t r.length ∧ vSum V r t r.length ≤ (contS f l r t).hi :=
  ⟨sumTo_mono _ fun i _ => (hV _).1, sumTo_mono _ fun i _ => (hV _).2⟩

theorem vSum_chg {f : Fd} {l : List Seen} {V : Spot → Int} (hV : ∀ x, (setOf f l x).lo ≤ V x ∧ V x ≤ (setOf f l x).hi) (hL : ∀ x y, V x - V y ≤ f.away x y) (r : List Int) {t u : Int} (h : t ≤ u) :
    (chgS f l r t u).lo ≤ vSum V r u r.length - vSum V r t r.length ∧ vSum V r u r.length - vSum V r t r.length ≤ (chgS f l r t u).hi := by
  unfold vSum
  rw [← sumTo_sub]
  have key : ∀ i, gLo f l r t u i ≤ V ⟨u, r.getD i 0⟩ - V ⟨t, r.getD i 0⟩ ∧ V ⟨u, r.getD i 0⟩ - V ⟨t, r.getD i 0⟩ ≤ gHi f l r t u i := by
    intro i
    have h1 := hV ⟨t, r.getD i 0⟩
    have h2 := hV ⟨u, r.getD i 0⟩
    have h3 := hL ⟨t, r.getD i 0⟩ ⟨u, r.getD i 0⟩
    have h4 := hL ⟨u, r.getD i 0⟩ ⟨t, r.getD i 0⟩
    rw [away_gap h] at h3
    rw [away_sym, away_gap h] at h4
    unfold gLo gHi cLo cHi
    omega
  exact ⟨sumTo_mono _ fun i _ => (key i).1, sumTo_mono _ fun i _ => (key i).2⟩

end Go.Proofs.Ytehagceghnjamaa.Ab
