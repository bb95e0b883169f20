/- Best: the best choice, plain. -/
import Derived.Test.YtlhchnnfgppneaaR2
import Derived.Test.YtlhchnnfgppneaaR4
namespace Go.Proofs.Ytlhchnnfgppneaa.Ab
open Go Go.RowKit Go.Proofs
set_option linter.unusedSimpArgs false
set_option linter.unusedVariables false
attribute [local irreducible] Awp wpO thenQ blockQ bodyQ ACalls stepA

theorem Ch.eq {c d : Ch} (h1 : c.bits = d.bits) (h2 : c.worth = d.worth) (h3 : c.size = d.size) : c = d := by
  cases c; cases d; simp only at h1 h2 h3; rw [h1, h2, h3]
/-- two choices of different parcels together -/
def Ch.or (c d : Ch) : Ch := ⟨c.bits + d.bits, c.worth + d.worth, c.size + d.size⟩
def c00 : Ch := ⟨0, 0, 0⟩
theorem or_c00 (c : Ch) : c.or c00 = c := Ch.eq (by simp [Ch.or, c00]) (by simp [Ch.or, c00]) (by simp [Ch.or, c00])
theorem subs_or : ∀ (l : List Pr) (h : Nat) (c d : Ch), subs l h (c.or d) = (subs l h d).map fun x => c.or x
  | [], _, _, _ => rfl
  | p :: l, h, c, d => by
    unfold subs
    have e : (c.or d).add h p = c.or (d.add h p) := Ch.eq (by simp only [Ch.or, Ch.add]; omega) (by simp only [Ch.or, Ch.add]; omega) (by simp only [Ch.or, Ch.add]; omega)
    rw [e, subs_or l, subs_or l, List.map_append]
theorem subs_app : ∀ (l1 l2 : List Pr) (h : Nat) (c : Ch), subs (l1 ++ l2) h c = (subs l1 h c).flatMap fun d => subs l2 (h - l1.length) d
  | [], l2, h, c => by simp [subs]
  | p :: l1, l2, h, c => by
    show subs (l1 ++ l2) (h - 1) c ++ subs (l1 ++ l2) (h - 1) (c.add h p) = (subs l1 (h - 1) c ++ subs l1 (h - 1) (c.add h p)).flatMap _
    rw [subs_app l1, subs_app l1, List.flatMap_append, List.length_cons, show h - (l1.length + 1) = h - 1 - l1.length by omega]
theorem subs_pair {l1 l2 : List Pr} {h : Nat} {x : Ch} : x ∈ subs (l1 ++ l2) h c00 ↔ ∃ c ∈ subs l1 h c00, ∃ d ∈ subs l2 (h - l1.length) c00, x = c.or d := by
  rw [subs_app, List.mem_flatMap]
  constructor
  · rintro ⟨c, hc, hx⟩
    rw [← or_c00 c, subs_or, List.mem_map] at hx
    obtain ⟨d, hd, rfl⟩ := hx
    exact ⟨c, hc, d, hd, rfl⟩
  · rintro ⟨c, hc, d, hd, rfl⟩
    refine ⟨c, hc, ?_⟩
    rw [← or_c00 c, subs_or, List.mem_map, or_c00]
    exact ⟨d, hd, rfl⟩
theorem subs_mem {l : List Pr} (hl : ∀ p ∈ l, p.ok) : ∀ {h : Nat} {c x : Ch}, x ∈ subs l h c → l.length ≤ h + 1 → c.bits % 2 ^ (h + 1) = 0 →
    (c.worth ≤ x.worth ∧ x.worth ≤ c.worth + 1048576 * l.length) ∧ (c.size ≤ x.size ∧ x.size ≤ c.size + 16777216 * l.length) ∧ x.bits % 2 ^ (h + 1 - l.length) = 0 ∧ c.bits ≤ x.bits ∧ x.bits < c.bits + 2 ^ (h + 1) := by
  induction l with
  | nil =>
    intro h c x hx _ hb
    simp [subs] at hx
    subst hx
    have := Nat.two_pow_pos (h + 1)
    refine ⟨⟨by omega, by simp⟩, ⟨by omega, by simp⟩, by simpa using hb, by omega, by omega⟩
  | cons p l ih =>
    intro h c x hx hlen hb
    have hp := hl p (by simp)
    obtain ⟨p1, p2⟩ := hp
    simp only [List.length_cons] at hlen ⊢
    have e : (1048576 : Int) * ((l.length + 1 : Nat) : Int) = 1048576 * l.length + 1048576 := by omega
    have e2 : (16777216 : Int) * ((l.length + 1 : Nat) : Int) = 16777216 * l.length + 16777216 := by omega
    unfold subs at hx
    rw [List.mem_append] at hx
    cases h with
    | zero =>
      have hl0 : l.length = 0 := by omega
      have hln : l = [] := List.eq_nil_of_length_eq_zero hl0
      subst hln
      simp only [subs, List.mem_singleton] at hx
      rcases hx with rfl | rfl
      · refine ⟨⟨by omega, by omega⟩, ⟨by omega, by omega⟩, by simp [Nat.mod_one], by omega, by omega⟩
      · unfold Ch.add
        refine ⟨⟨by simp only; omega, by simp only; omega⟩, ⟨by simp only; omega, by simp only; omega⟩, by simp [Nat.mod_one], by simp only; omega, by simp only; omega⟩
    | succ h =>
      have hpw : 2 ^ (h + 1 + 1) = 2 ^ (h + 1) + 2 ^ (h + 1) := by rw [Nat.pow_succ]; omega
      have hb1 := dvd_half hb
      rw [show h + 1 + 1 - (l.length + 1) = h + 1 - l.length by omega]
      rcases hx with hx | hx
      · obtain ⟨a1, a2, a3, a4, a5⟩ := ih (fun q hq => hl q (by simp [hq])) (h := h) hx (by omega) hb1
        exact ⟨⟨by omega, by omega⟩, ⟨by omega, by omega⟩, a3, by omega, by omega⟩
      · have hb2 : (c.add (h + 1) p).bits % 2 ^ (h + 1) = 0 := by
          show (c.bits + 2 ^ (h + 1)) % 2 ^ (h + 1) = 0
          rw [Nat.add_mod_right]; exact hb1
        obtain ⟨a1, a2, a3, a4, a5⟩ := ih (fun q hq => hl q (by simp [hq])) (h := h) hx (by omega) hb2
        unfold Ch.add at a1 a2 a4 a5
        simp only at a1 a2 a4 a5
        exact ⟨⟨by omega, by omega⟩, ⟨by omega, by omega⟩, a3, by omega, by omega⟩

theorem betB_or2 (c d e : Ch) : betB (c.or d) (c.or e) = betB d e := by
  unfold betB Ch.or
  congr 1
  refine propext ?_
  simp only
  omega
theorem betB_irr (c : Ch) : betB c c = false := by unfold betB; rw [decide_eq_false_iff_not]; omega
theorem betB_tr {a b c : Ch} (h1 : betB b a = false) (h2 : betB c b = false) : betB c a = false := by
  unfold betB at *
  rw [decide_eq_false_iff_not] at *
  omega
theorem betB_asym {a b : Ch} (h : betB a b = true) : betB b a = false := by
  unfold betB at *
  rw [decide_eq_true_eq] at h
  rw [decide_eq_false_iff_not]
  omega
/-- none is better -/
structure Top (A : Ch → Prop) (x : Ch) : Prop where
  mem : A x
  le : ∀ y, A y → betB y x = false
theorem Top.uniq {A : Ch → Prop} {x y : Ch} (h : Top A x) (k : Top A y) : x = y := by
  have h1 := h.le y k.mem
  have h2 := k.le x h.mem
  unfold betB at h1 h2
  rw [decide_eq_false_iff_not] at h1 h2
  exact Ch.eq (by omega) (by omega) (by omega)
theorem Top.congr {A B : Ch → Prop} {x : Ch} (h : Top A x) (e : ∀ y, A y ↔ B y) : Top B x := ⟨(e x).1 h.mem, fun y hy => h.le y ((e y).2 hy)⟩
/-- one more -/
theorem Top.more {A : Ch → Prop} {x y : Ch} (h : Top A x) : Top (fun z => A z ∨ z = y) (if betB y x then y else x) := by
  cases hb : betB y x with
  | true =>
    rw [if_pos rfl]
    refine ⟨.inr rfl, fun z hz => ?_⟩
    rcases hz with hz | rfl
    · exact betB_tr (betB_asym hb) (h.le z hz)
    · exact betB_irr _
  | false =>
    rw [if_neg (by simp)]
    refine ⟨.inl h.mem, fun z hz => ?_⟩
    rcases hz with hz | rfl
    · exact h.le z hz
    · exact hb

/-- the choices that fit -/
def fitA (l : List Pr) (room : Int) (x : Ch) : Prop := x ∈ subs l 23 c00 ∧ x.size ≤ room
instance : Nonempty Ch := ⟨c00⟩
noncomputable def topL (l : List Pr) (room : Int) : Ch := Classical.epsilon (Top (fitA l room))
theorem topL_eq {l : List Pr} {room : Int} {x : Ch} (h : Top (fitA l room) x) : topL l room = x := (Classical.epsilon_spec (p := Top (fitA l room)) ⟨x, h⟩).uniq h
/-- the parcels of a choice -/
def idxL (b n : Nat) : List Int := ((List.range n).filter fun i => b / 2 ^ (23 - i) % 2 == 1).map fun i : Nat => (i : Int)
theorem idxL_succ (b n : Nat) : idxL b (n + 1) = if b / 2 ^ (23 - n) % 2 = 1 then idxL b n ++ [(n : Int)] else idxL b n := by
  unfold idxL
  rw [List.range_succ, List.filter_append, List.map_append]
  by_cases h : b / 2 ^ (23 - n) % 2 = 1
  · rw [if_pos h]; simp [h]
  · rw [if_neg h]; simp [h]
theorem idxL_len (b n : Nat) : (idxL b n).length ≤ n := by
  unfold idxL
  rw [List.length_map]
  exact Nat.le_trans (List.length_filter_le _ _) (by simp)

/-- the best of each beginning -/
structure PreT (L T : List Ch) (i : Nat) : Prop where
  len : T.length = L.length
  lo : ∀ j x, j < i → T[j]? = some x → Top (fun y => y ∈ L.take (j + 1)) x
  hi : ∀ j, i ≤ j → T[j]? = L[j]?
theorem PreT.start {L : List Ch} (h : 0 < L.length) : PreT L L 1 := ⟨rfl, fun j x hj hx => by
  have : j = 0 := by omega
  subst this
  cases L with
  | nil => simp at h
  | cons c l =>
    simp at hx
    subst hx
    exact ⟨by simp, fun y hy => by simp at hy; rw [hy]; exact betB_irr _⟩, fun _ _ => rfl⟩
theorem PreT.step {L T : List Ch} {i : Nat} (h : PreT L T i) {a b : Ch} (h0 : 1 ≤ i) (ha : T[i - 1]? = some a) (hb : T[i]? = some b) : PreT L (T.set i (if betB a b then a else b)) (i + 1) := by
  have hbL : L[i]? = some b := by rw [← h.hi i (Nat.le_refl _)]; exact hb
  have hlt := (List.getElem?_eq_some_iff.1 hb).1
  refine ⟨by rw [List.length_set]; exact h.len, fun j x hj hx => ?_, fun j hj => ?_⟩
  · by_cases e : i = j
    · subst e
      rw [List.getElem?_set_self hlt] at hx
      cases hx
      have h1 := h.lo (i - 1) a (by omega) ha
      rw [show i - 1 + 1 = i by omega] at h1
      have h2 : Top (fun y => y ∈ L.take (i + 1)) (if betB b a then b else a) := (h1.more (y := b)).congr fun y => by
        rw [List.take_add_one, hbL]; simp
      have : (if betB a b then a else b) = (if betB b a then b else a) := by
        cases h3 : betB a b with
        | true => rw [betB_asym h3]; simp
        | false =>
          cases h4 : betB b a with
          | true => simp
          | false =>
            have : a = b := by
              unfold betB at h3 h4
              rw [decide_eq_false_iff_not] at h3 h4
              exact Ch.eq (by omega) (by omega) (by omega)
            simp [this]
      rw [this]; exact h2
    · rw [List.getElem?_set_ne e] at hx
      exact h.lo j x (by omega) hx
  · rw [List.getElem?_set_ne (by omega)]; exact h.hi j (by omega)

/-- the second halves up to a size: those at the front -/
theorem cntZ_le (L : List Ch) (left : Int) : cntZ L left ≤ L.length := List.countP_le_length
theorem cntZ_mem {L : List Ch} (hs : SrtZ L) (left : Int) (y : Ch) : y ∈ L.take (cntZ L left) ↔ y ∈ L ∧ y.size ≤ left := by
  have key : ∀ L : List Ch, SrtZ L → L.take (cntZ L left) = L.filter fun c => decide (c.size ≤ left) := by
    intro L
    induction L with
    | nil => intro _; rfl
    | cons c l ih =>
      intro h
      have hc := List.pairwise_cons.1 h
      unfold cntZ
      by_cases k : c.size ≤ left
      · rw [List.countP_cons_of_pos (by simpa using k), List.take_succ_cons, List.filter_cons_of_pos (by simpa using k)]
        congr 1
        exact ih hc.2
      · have hz : ∀ y ∈ l, ¬ y.size ≤ left := fun y hy h => k (Int.le_trans (hc.1 y hy) h)
        rw [List.countP_cons_of_neg (by simpa using k), List.countP_eq_zero.2 (fun y hy => by simpa using hz y hy), List.take_zero, List.filter_cons_of_neg (by simpa using k), eq_comm, List.filter_eq_nil_iff]
        intro y hy; simpa using hz y hy
  rw [key L hs, List.mem_filter]
  simp

/-- what has been looked at of the first halves -/
def seenA (F L : List Ch) (room : Int) (k : Nat) (x : Ch) : Prop := x = c00 ∨ ∃ c ∈ F.take k, ∃ d ∈ L, x = c.or d ∧ x.size ≤ room
theorem seenA_zero {F L : List Ch} {room : Int} : Top (seenA F L room 0) c00 := ⟨.inl rfl, fun y hy => by
  rcases hy with rfl | ⟨c, hc, _⟩
  · exact betB_irr _
  · simp at hc⟩
theorem seenA_none {F L : List Ch} {room : Int} {k : Nat} {c x : Ch} (h : Top (seenA F L room k) x) (hs : SrtZ L) (hc : F[k]? = some c) (h0 : cntZ L (room - c.size) = 0) : Top (seenA F L room (k + 1)) x := by
  refine h.congr fun y => ?_
  unfold seenA
  rw [List.take_add_one, hc]
  refine ⟨fun h => ?_, fun h => ?_⟩
  · rcases h with h | ⟨a, ha, r⟩
    · exact .inl h
    · exact .inr ⟨a, by simp [ha], r⟩
  · rcases h with h | ⟨a, ha, d, hd, e, hle⟩
    · exact .inl h
    · rcases List.mem_append.1 ha with ha | ha
      · exact .inr ⟨a, ha, d, hd, e, hle⟩
      · exfalso
        simp at ha
        subst ha
        have := (cntZ_mem hs (room - a.size) d).2 ⟨hd, by rw [e] at hle; unfold Ch.or at hle; simp only at hle; omega⟩
        rw [h0] at this; simp at this
theorem seenA_some {F L : List Ch} {room : Int} {k : Nat} {c d x : Ch} (h : Top (seenA F L room k) x) (hs : SrtZ L) (hc : F[k]? = some c) (hd : Top (fun y => y ∈ L.take (cntZ L (room - c.size))) d) : Top (seenA F L room (k + 1)) (if betB (c.or d) x then c.or d else x) := by
  have h1 := h.more (y := c.or d)
  obtain ⟨m1, m2⟩ := (cntZ_mem hs (room - c.size) d).1 hd.mem
  have hin : seenA F L room (k + 1) (c.or d) := .inr ⟨c, by rw [List.take_add_one, hc]; simp, d, m1, rfl, by unfold Ch.or; simp only; omega⟩
  refine ⟨?_, fun y hy => ?_⟩
  · rcases h1.mem with r | r
    · rcases r with r | ⟨a, ha, rest⟩
      · exact .inl r
      · exact .inr ⟨a, by rw [List.take_add_one, hc]; simp [ha], rest⟩
    · rw [r]; exact hin
  · rcases hy with rfl | ⟨a, ha, e, he, rfl, hle⟩
    · exact h1.le _ (.inl (.inl rfl))
    · rw [List.take_add_one, hc] at ha
      rcases List.mem_append.1 ha with ha | ha
      · exact h1.le _ (.inl (.inr ⟨a, ha, e, he, rfl, hle⟩))
      · simp at ha
        subst ha
        have h2 := hd.le e ((cntZ_mem hs (room - a.size) e).2 ⟨he, by unfold Ch.or at hle; simp only at hle; omega⟩)
        exact betB_tr (h1.le _ (.inr rfl)) (by rw [betB_or2]; exact h2)
/-- in the end: the best of all -/
theorem seenA_top {l : List Pr} {half : Nat} {F L : List Ch} {room : Int} {x : Ch} (hh : half ≤ l.length) (hF : F = subs (l.take half) 23 c00) (hL : L.Perm (subs (l.drop half) (23 - half) c00)) (h0 : 0 ≤ room) (h : Top (seenA F L room F.length) x) : Top (fitA l room) x := by
  refine h.congr fun y => ?_
  have hlen : (l.take half).length = half := by rw [List.length_take]; omega
  have hp : ∀ y, y ∈ subs l 23 c00 ↔ ∃ c ∈ F, ∃ d ∈ L, y = c.or d := fun y => by
    conv => lhs; rw [← List.take_append_drop half l]
    rw [subs_pair, hlen, hF]
    constructor
    · rintro ⟨c, hc, d, hd, e⟩; exact ⟨c, hc, d, hL.mem_iff.2 hd, e⟩
    · rintro ⟨c, hc, d, hd, e⟩; exact ⟨c, hc, d, hL.mem_iff.1 hd, e⟩
  have hz : c00 ∈ subs l 23 c00 := by
    have : ∀ (l : List Pr) (h : Nat) (c : Ch), c ∈ subs l h c := by
      intro l
      induction l with
      | nil => intro h c; simp [subs]
      | cons p l ih => intro h c; unfold subs; exact List.mem_append_left _ (ih _ _)
    exact this _ _ _
  unfold seenA fitA
  rw [List.take_length, hp]
  constructor
  · rintro (rfl | ⟨c, hc, d, hd, e, hle⟩)
    · exact ⟨(hp _).1 hz, by show (0 : Int) ≤ room; exact h0⟩
    · exact ⟨⟨c, hc, d, hd, e⟩, hle⟩
  · rintro ⟨⟨c, hc, d, hd, e⟩, hle⟩
    exact .inr ⟨c, hc, d, hd, e, hle⟩

end Go.Proofs.Ytlhchnnfgppneaa.Ab
