/- Fields: changes of successive times, in plain words. -/
import Derived.Test.YtehagceghnjamaaP4
namespace Go.Proofs.Ytehagceghnjamaa.Ab
open Go Go.RowKit Go.Proofs
set_option linter.unusedVariables false

theorem away_same {f : Fd} {t u c : Int} (h : t ≤ u) : f.away ⟨t, c⟩ ⟨u, c⟩ = f.ch * (u - t) := by
  unfold Fd.away
  simp only [Int.sub_self]
  rw [show absZ 0 = 0 by simp [absZ], show absZ (t - u) = u - t by unfold absZ; omega]
  simp

theorem sumTo_le {g h : Nat → Int} : ∀ n, (∀ i, i < n → g i ≤ h i) → sumTo g n ≤ sumTo h n
  | 0, _ => by simp [sumTo]
  | n + 1, hi => by
    have ih := sumTo_le n fun i h => hi i (by omega)
    have := hi n (by omega)
    unfold sumTo
    omega

theorem sumTo_add (g h : Nat → Int) : ∀ n, sumTo (fun i => g i + h i) n = sumTo g n + sumTo h n
  | 0 => by simp [sumTo]
  | n + 1 => by
    have ih := sumTo_add g h n
    unfold sumTo
    omega

section chg
variable {f : Fd} {l : List Seen} {r : List Int}

theorem g_le (hf : f.ok) (hc : Cons f l) {t u : Int} (h : t ≤ u) (i : Nat) : gLo f l r t u i ≤ gHi f l r t u i := by
  have h1 := set_full hf hc ⟨t, r.getD i 0⟩
  have h2 := set_full hf hc ⟨u, r.getD i 0⟩
  have h3 := lo_lip hf l ⟨u, r.getD i 0⟩ ⟨t, r.getD i 0⟩
  have h4 := hi_lip hf l ⟨t, r.getD i 0⟩ ⟨u, r.getD i 0⟩
  rw [away_sym, away_same h] at h3
  rw [away_same h] at h4
  have hw : 0 ≤ f.ch * (u - t) := Int.mul_nonneg hf.2.2.2.2.2.2.2.2.1 (by omega)
  unfold gLo gHi cLo cHi
  omega

theorem chg_le (hf : f.ok) (hc : Cons f l) {t u : Int} (h : t ≤ u) : (chgS f l r t u).lo ≤ (chgS f l r t u).hi := sumTo_le _ fun i _ => g_le hf hc h i

theorem chg_small (hf : f.ok) (hr : regOk f r) (hc : Cons f l) {t u : Int} (h0 : 0 ≤ t) (h : t ≤ u) (h1 : u ≤ f.last) : -(8388608 * 64) ≤ (chgS f l r t u).lo ∧ (chgS f l r t u).hi ≤ 8388608 * 64 := by
  have hgap := gap_in hf h0 (by omega) (by omega) h1
  have h64 := hr.len hf
  have b1 := sumTo_in (g := gLo f l r t u) (A := 8388608) r.length fun j hj => by
    have := g_le (r := r) hf hc h j
    unfold gHi at this
    unfold gLo at this ⊢
    omega
  have b2 := sumTo_in (g := gHi f l r t u) (A := 8388608) r.length fun j hj => by
    have := g_le (r := r) hf hc h j
    unfold gLo at this
    unfold gHi at this ⊢
    omega
  unfold chgS
  simp only
  omega

theorem chg_add (hf : f.ok) (hc : Cons f l) {a b c : Int} (h1 : a ≤ b) (h2 : b ≤ c) :
    (chgS f l r a b).lo + (chgS f l r b c).lo ≤ (chgS f l r a c).lo ∧ (chgS f l r a c).hi ≤ (chgS f l r a b).hi + (chgS f l r b c).hi := by
  unfold chgS
  simp only
  rw [← sumTo_add, ← sumTo_add]
  have e : f.ch * (c - a) = f.ch * (b - a) + f.ch * (c - b) := by rw [← Int.mul_add]; congr 1; omega
  have key : ∀ i, gLo f l r a b i + gLo f l r b c i ≤ gLo f l r a c i ∧ gHi f l r a c i ≤ gHi f l r a b i + gHi f l r b c i := by
    intro i
    have f1 := set_full hf hc ⟨a, r.getD i 0⟩
    have f2 := set_full hf hc ⟨b, r.getD i 0⟩
    have f3 := set_full hf hc ⟨c, r.getD i 0⟩
    have p1 := lo_lip hf l ⟨b, r.getD i 0⟩ ⟨c, r.getD i 0⟩
    have p2 := hi_lip hf l ⟨a, r.getD i 0⟩ ⟨b, r.getD i 0⟩
    have p3 := lo_lip hf l ⟨a, r.getD i 0⟩ ⟨b, r.getD i 0⟩
    have p4 := hi_lip hf l ⟨b, r.getD i 0⟩ ⟨c, r.getD i 0⟩
    have p5 := lo_lip hf l ⟨b, r.getD i 0⟩ ⟨a, r.getD i 0⟩
    have p6 := hi_lip hf l ⟨c, r.getD i 0⟩ ⟨b, r.getD i 0⟩
    rw [away_same h2] at p1 p4
    rw [away_same h1] at p2 p3
    rw [away_sym, away_same h1] at p5
    rw [away_sym, away_same h2] at p6
    unfold gLo gHi cLo cHi
    rw [e]
    omega
  exact ⟨sumTo_le _ fun i _ => (key i).1, sumTo_le _ fun i _ => (key i).2⟩

end chg

theorem bad_no {s : Sp} (h0 : s.lo ≤ s.hi) (h1 : -1073741824 ≤ s.lo) (h2 : s.hi ≤ 1073741824) : s.bad = false := by
  have := Sp.bad_iff s
  cases h : s.bad
  · rfl
  · have := this.1 h; omega

theorem callWith {P : Program} {f : FuncId} {args args' : List AV} {H : Hp} {Post : AV → Hp → Prop} (hargs : ∀ g vs, RCells g args' vs → RCells g args vs) (h : ACalls P f args H Post) : ACalls P f args' H Post :=
  ⟨h.1, fun base w0 g w vs S hr => h.2 base w0 g w vs S (hargs g vs hr)⟩

/-- a budget whose fluxes are nil -/
theorem nilBud {g : Gh} {vs : Array Value} {x y p q u : AV} (h : RCells g [x, y, .agg [p, q, u, nilS]] vs) : RCells g [x, y, .agg [p, q, u, .rsl [] true]] vs := by
  refine ⟨h.size, fun i c w hc hw => ?_⟩
  match i with
  | 0 => exact h.cell 0 c w hc hw
  | 1 => exact h.cell 1 c w hc hw
  | 2 =>
    have := h.cell 2 _ w rfl hw
    cases hc
    cases this with
    | agg hl hr =>
      refine .agg hl fun j c w hc hw => ?_
      match j with
      | 0 => exact hr 0 c w hc hw
      | 1 => exact hr 1 c w hc hw
      | 2 => exact hr 2 c w hc hw
      | 3 =>
        have := hr 3 nilS w rfl hw
        cases hc
        cases this
        exact .rnil none
      | j + 4 => simp at hc
  | i + 3 => simp at hc

end Go.Proofs.Ytehagceghnjamaa.Ab
