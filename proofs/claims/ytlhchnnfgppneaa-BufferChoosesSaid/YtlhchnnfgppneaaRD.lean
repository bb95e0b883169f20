/- BufferBest: plain facts of the best choice. -/
import Derived.Test.YtlhchnnfgppneaaR7
namespace Go.Proofs.Ytlhchnnfgppneaa.Ab
open Go Go.RowKit Go.Proofs
set_option linter.unusedSimpArgs false
set_option linter.unusedVariables false
attribute [local irreducible] Awp wpO thenQ blockQ bodyQ ACalls stepA

def gP (l : List Pr) (i : Nat) : Pr := (l[i]?).getD ⟨0, 0⟩
theorem gP_at {l : List Pr} {i : Nat} {p : Pr} (h : l[i]? = some p) : gP l i = p := by unfold gP; rw [h]; rfl
/-- a sum over those that are taken -/
def sumN (w : Pr → Int) (l : List Pr) (f : Nat → Bool) : Nat → Int
  | 0 => 0
  | n + 1 => sumN w l f n + (if f n then w (gP l n) else 0)
theorem sumN_cons (w : Pr → Int) (p : Pr) (l : List Pr) (f : Nat → Bool) : ∀ n, sumN w (p :: l) f (n + 1) = (if f 0 then w p else 0) + sumN w l (fun i => f (i + 1)) n
  | 0 => by simp [sumN, gP]
  | n + 1 => by
    show sumN w (p :: l) f (n + 1) + (if f (n + 1) then w (gP (p :: l) (n + 1)) else 0) = _
    rw [sumN_cons w p l f n]
    show _ = (if f 0 then w p else 0) + (sumN w l (fun i => f (i + 1)) n + if f (n + 1) then w (gP l n) else 0)
    have : gP (p :: l) (n + 1) = gP l n := by simp [gP]
    rw [this]; omega
/-- the choice of those -/
def chF : List Pr → Nat → (Nat → Bool) → Ch → Ch
  | [], _, _, c => c
  | p :: l, h, f, c => chF l (h - 1) (fun i => f (i + 1)) (if f 0 then c.add h p else c)
theorem chF_mem : ∀ (l : List Pr) (h : Nat) (f : Nat → Bool) (c : Ch), chF l h f c ∈ subs l h c
  | [], _, _, _ => by simp [chF, subs]
  | p :: l, h, f, c => by
    unfold chF subs
    rw [List.mem_append]
    cases f 0 with
    | true => right; exact chF_mem l _ _ _
    | false => left; exact chF_mem l _ _ _
theorem chF_sum : ∀ (l : List Pr) (h : Nat) (f : Nat → Bool) (c : Ch), (chF l h f c).worth = c.worth + sumN Pr.worth l f l.length ∧ (chF l h f c).size = c.size + sumN Pr.size l f l.length
  | [], _, _, _ => by simp [chF, sumN]
  | p :: l, h, f, c => by
    unfold chF
    obtain ⟨h1, h2⟩ := chF_sum l (h - 1) (fun i => f (i + 1)) (if f 0 then c.add h p else c)
    rw [h1, h2, List.length_cons, sumN_cons, sumN_cons]
    cases f 0 with
    | true => simp only [if_true, Ch.add]; omega
    | false => simp
theorem div_lo {x k h : Nat} (h1 : 2 ^ (h + 1) * k ≤ x) (h2 : x < 2 ^ (h + 1) * k + 2 ^ h) : x / 2 ^ h % 2 = 0 := by
  have hp := Nat.two_pow_pos h
  have e : x / 2 ^ h = 2 * k := by
    refine Nat.div_eq_of_lt_le ?_ ?_
    · rw [Nat.pow_succ] at h1
      calc 2 * k * 2 ^ h = 2 ^ h * 2 * k := by rw [Nat.mul_comm (2 * k), ← Nat.mul_assoc]
        _ ≤ x := h1
    · rw [Nat.pow_succ] at h2
      calc x < 2 ^ h * 2 * k + 2 ^ h := h2
        _ = (2 * k + 1) * 2 ^ h := by rw [Nat.add_mul, Nat.one_mul, Nat.mul_comm (2 * k), ← Nat.mul_assoc]
  rw [e]; omega
theorem div_hi {x k h : Nat} (h1 : 2 ^ (h + 1) * k + 2 ^ h ≤ x) (h2 : x < 2 ^ (h + 1) * k + 2 ^ h + 2 ^ h) : x / 2 ^ h % 2 = 1 := by
  have e : x / 2 ^ h = 2 * k + 1 := by
    refine Nat.div_eq_of_lt_le ?_ ?_
    · rw [Nat.pow_succ] at h1
      calc (2 * k + 1) * 2 ^ h = 2 ^ h * 2 * k + 2 ^ h := by rw [Nat.add_mul, Nat.one_mul, Nat.mul_comm (2 * k), ← Nat.mul_assoc]
        _ ≤ x := h1
    · rw [Nat.pow_succ] at h2
      calc x < 2 ^ h * 2 * k + 2 ^ h + 2 ^ h := h2
        _ = (2 * k + 1 + 1) * 2 ^ h := by rw [Nat.add_mul, Nat.add_mul, Nat.one_mul, Nat.mul_comm (2 * k), ← Nat.mul_assoc]
  rw [e]; omega
/-- a choice is that of its bits -/
theorem chF_bits : ∀ (l : List Pr), (∀ p ∈ l, p.ok) → ∀ (h : Nat) (c x : Ch), x ∈ subs l h c → l.length ≤ h + 1 → c.bits % 2 ^ (h + 1) = 0 → x = chF l h (fun i => x.bits / 2 ^ (h - i) % 2 == 1) c
  | [], _, _, _, x, hx, _, _ => by simp [subs] at hx; rw [hx]; rfl
  | p :: l, hok, h, c, x, hx, hl, hb => by
    have hok2 : ∀ q ∈ l, q.ok := fun q hq => hok q (by simp [hq])
    obtain ⟨k, hk⟩ := Nat.dvd_of_mod_eq_zero hb
    unfold subs at hx
    rw [List.mem_append] at hx
    simp only [List.length_cons] at hl
    unfold chF
    have hshift : (fun i => x.bits / 2 ^ (h - (i + 1)) % 2 == 1) = fun i => x.bits / 2 ^ (h - 1 - i) % 2 == 1 := by
      funext i; rw [show h - (i + 1) = h - 1 - i by omega]
    rw [hshift]
    show x = chF l (h - 1) (fun i => x.bits / 2 ^ (h - 1 - i) % 2 == 1) (if (x.bits / 2 ^ (h - 0) % 2 == 1) = true then c.add h p else c)
    rw [Nat.sub_zero]
    have hpw : 2 ^ (h + 1) = 2 ^ h + 2 ^ h := by rw [Nat.pow_succ]; omega
    have hp := Nat.two_pow_pos h
    -- bounds of what comes behind
    have hbd : ∀ d : Ch, d.bits % 2 ^ h = 0 → x ∈ subs l (h - 1) d → d.bits ≤ x.bits ∧ x.bits < d.bits + 2 ^ h := fun d hd hx => by
      cases h with
      | zero =>
        have : l = [] := List.eq_nil_of_length_eq_zero (by omega)
        subst this
        simp [subs] at hx
        subst hx
        exact ⟨Nat.le_refl _, by omega⟩
      | succ h =>
        obtain ⟨_, _, _, a4, a5⟩ := subs_mem hok2 (h := h) hx (by omega) hd
        exact ⟨a4, a5⟩
    have hnext : ∀ d : Ch, d.bits % 2 ^ h = 0 → x ∈ subs l (h - 1) d → x = chF l (h - 1) (fun i => x.bits / 2 ^ (h - 1 - i) % 2 == 1) d := fun d hd hx => by
      cases h with
      | zero =>
        have : l = [] := List.eq_nil_of_length_eq_zero (by omega)
        subst this
        simp [subs] at hx
        rw [hx]; rfl
      | succ h => exact chF_bits l hok2 h d x hx (by omega) hd
    have hb0 : c.bits % 2 ^ h = 0 := dvd_half hb
    rcases hx with hx | hx
    · obtain ⟨a4, a5⟩ := hbd c hb0 hx
      have : x.bits / 2 ^ h % 2 = 0 := div_lo (k := k) (by omega) (by omega)
      rw [this]
      exact hnext c hb0 hx
    · have hb1 : (c.add h p).bits % 2 ^ h = 0 := by
        show (c.bits + 2 ^ h) % 2 ^ h = 0
        rw [Nat.add_mod_right]; exact hb0
      obtain ⟨a4, a5⟩ := hbd _ hb1 hx
      have e : (c.add h p).bits = c.bits + 2 ^ h := rfl
      have : x.bits / 2 ^ h % 2 = 1 := div_hi (k := k) (by omega) (by omega)
      rw [this]
      exact hnext _ hb1 hx

def sumI (w : Pr → Int) (l : List Pr) (a : List Int) : Int := (a.map fun j => w (gP l j.toNat)).sum
theorem sumI_succ {w : Pr → Int} {l : List Pr} {a : List Int} {k : Nat} {j : Int} (h : a[k]? = some j) : sumI w l (a.take (k + 1)) = sumI w l (a.take k) + w (gP l j.toNat) := by
  unfold sumI
  rw [List.take_add_one, h]; simp
theorem sumI_idx (w : Pr → Int) (l : List Pr) (b : Nat) : ∀ n, sumI w l (idxL b n) = sumN w l (fun i => b / 2 ^ (23 - i) % 2 == 1) n
  | 0 => rfl
  | n + 1 => by
    rw [idxL_succ]
    show _ = sumN w l _ n + (if (b / 2 ^ (23 - n) % 2 == 1) = true then w (gP l n) else 0)
    rw [← sumI_idx w l b n]
    by_cases h : b / 2 ^ (23 - n) % 2 = 1
    · rw [if_pos h, if_pos (by simp [h])]
      unfold sumI
      simp
    · rw [if_neg h, if_neg (by simp [h])]; omega
theorem idxL_srt (b n : Nat) : (idxL b n).Pairwise (· < ·) := by
  unfold idxL
  rw [List.pairwise_map]
  exact (List.Pairwise.filter _ List.pairwise_lt_range).imp fun h => by omega
theorem idxL_in (b n : Nat) : ∀ j ∈ idxL b n, 0 ≤ j ∧ j < (n : Int) := by
  intro j hj
  unfold idxL at hj
  obtain ⟨i, hi, rfl⟩ := List.mem_map.1 hj
  have := List.mem_range.1 (List.mem_filter.1 hi).1
  omega

/-- there is a best one -/
theorem top_of : ∀ (L : List Ch), L ≠ [] → ∃ x, Top (fun y => y ∈ L) x
  | [], h => absurd rfl h
  | [c], _ => ⟨c, by simp, fun y hy => by simp at hy; rw [hy]; exact betB_irr _⟩
  | c :: d :: l, _ => by
    obtain ⟨x, hx⟩ := top_of (d :: l) (by simp)
    exact ⟨_, (hx.more (y := c)).congr fun y => by simp only [List.mem_cons]; exact ⟨fun h => h.elim (fun h => .inr h) .inl, fun h => h.elim .inr .inl⟩⟩
theorem topTop (l : List Pr) {room : Int} (h0 : 0 ≤ room) : Top (fitA l room) (topL l room) := by
  have hz : c00 ∈ subs l 23 c00 := by
    have : ∀ (l : List Pr) (h : Nat) (c : Ch), c ∈ subs l h c := by
      intro l
      induction l with
      | nil => intro h c; simp [subs]
      | cons p l ih => intro h c; unfold subs; exact List.mem_append_left _ (ih _ _)
    exact this _ _ _
  obtain ⟨x, hx⟩ := top_of ((subs l 23 c00).filter fun y => decide (y.size ≤ room)) (by
    intro e
    have : c00 ∈ (subs l 23 c00).filter fun y => decide (y.size ≤ room) := List.mem_filter.2 ⟨hz, decide_eq_true (show (0 : Int) ≤ room from h0)⟩
    rw [e] at this; cases this)
  have hx2 : Top (fitA l room) x := hx.congr fun y => by rw [List.mem_filter]; simp [fitA]
  rw [topL_eq hx2]; exact hx2
theorem betB_no {x y : Ch} (h : betB y x = false) : y.worth ≤ x.worth ∧ (y.worth = x.worth → x.size ≤ y.size) := by
  unfold betB at h
  rw [decide_eq_false_iff_not] at h
  omega
section
variable {l : List Pr} {room : Int}
theorem top_sum (hok : ∀ p ∈ l, p.ok) (hl : l.length ≤ 24) (h0 : 0 ≤ room) : sumI Pr.worth l (idxL (topL l room).bits l.length) = (topL l room).worth ∧ sumI Pr.size l (idxL (topL l room).bits l.length) = (topL l room).size ∧ (topL l room).size ≤ room := by
  have hT := topTop l h0
  have e := chF_bits l hok 23 c00 _ hT.mem.1 (by omega) (by simp [c00])
  obtain ⟨h1, h2⟩ := chF_sum l 23 (fun i => (topL l room).bits / 2 ^ (23 - i) % 2 == 1) c00
  rw [← e] at h1 h2
  rw [sumI_idx, sumI_idx]
  refine ⟨?_, ?_, hT.mem.2⟩
  · rw [h1]; simp [c00]
  · rw [h2]; simp [c00]
theorem top_any (h0 : 0 ≤ room) (f : Nat → Bool) (hf : sumN Pr.size l f l.length ≤ room) : sumN Pr.worth l f l.length ≤ (topL l room).worth ∧ (sumN Pr.worth l f l.length = (topL l room).worth → (topL l room).size ≤ sumN Pr.size l f l.length) := by
  have hT := topTop l h0
  obtain ⟨h1, h2⟩ := chF_sum l 23 f c00
  have h3 := betB_no (hT.le (chF l 23 f c00) ⟨chF_mem _ _ _ _, by rw [h2]; simp [c00]; exact hf⟩)
  rw [h1, h2] at h3
  simpa [c00] using h3
theorem top_more {room' : Int} (h0 : 0 ≤ room) (h : room ≤ room') : (topL l room).worth ≤ (topL l room').worth := by
  have hT := topTop l h0
  have hT' := topTop l (show 0 ≤ room' by omega)
  exact (betB_no (hT'.le _ ⟨hT.mem.1, by have := hT.mem.2; omega⟩)).1
theorem top_less (hok : ∀ p ∈ l, p.ok) (hl : l.length ≤ 24) (h0 : 0 ≤ room) : (topL (l.drop 1) room).worth ≤ (topL l room).worth := by
  cases l with
  | nil => exact Int.le_refl _
  | cons p l =>
    rw [List.drop_one, List.tail_cons]
    simp only [List.length_cons] at hl
    have hT := topTop l h0
    have e := chF_bits l (fun q hq => hok q (by simp [hq])) 23 c00 _ hT.mem.1 (by omega) (by simp [c00])
    obtain ⟨h1, h2⟩ := chF_sum l 23 (fun i => (topL l room).bits / 2 ^ (23 - i) % 2 == 1) c00
    rw [← e] at h1 h2
    have h3 := top_any (l := p :: l) (room := room) h0 (fun i => match i with
      | 0 => false
      | i + 1 => (topL l room).bits / 2 ^ (23 - i) % 2 == 1)
    rw [List.length_cons, sumN_cons, sumN_cons] at h3
    simp only [Bool.false_eq_true, if_false, Int.zero_add] at h3
    have h4 := h3 (by have := hT.mem.2; rw [h2] at this; simpa [c00] using this)
    rw [h1]
    simpa [c00] using h4.1
end

end Go.Proofs.Ytlhchnnfgppneaa.Ab
