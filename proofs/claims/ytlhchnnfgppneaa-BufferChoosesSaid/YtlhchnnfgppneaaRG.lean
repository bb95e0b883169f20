/- Best: the choices that go on from one, plain. -/
import Derived.Test.YtlhchnnfgppneaaRD
namespace Go.Proofs.Ytlhchnnfgppneaa.Ab
open Go Go.RowKit Go.Proofs
set_option linter.unusedSimpArgs false
set_option linter.unusedVariables false
attribute [local irreducible] Awp wpO thenQ blockQ bodyQ ACalls stepA

theorem Top.join {A B : Ch → Prop} {x z : Ch} (h : Top A x) (k : Top B z) : Top (fun y => A y ∨ B y) (if betB z x then z else x) := by
  cases hb : betB z x with
  | true =>
    rw [if_pos rfl]
    refine ⟨.inr k.mem, fun y hy => ?_⟩
    rcases hy with hy | hy
    · exact betB_tr (betB_asym hb) (h.le y hy)
    · exact k.le y hy
  | false =>
    rw [if_neg (by simp)]
    refine ⟨.inl h.mem, fun y hy => ?_⟩
    rcases hy with hy | hy
    · exact h.le y hy
    · exact betB_tr hb (k.le y hy)

/-- the choices that fit and go on from c with parcels from the place k on -/
def ext (l : List Pr) (room : Int) (k : Nat) (c y : Ch) : Prop := y ∈ subs (l.drop k) (23 - k) c ∧ y.size ≤ room
theorem subs_self : ∀ (l : List Pr) (h : Nat) (c : Ch), c ∈ subs l h c
  | [], _, c => by simp [subs]
  | p :: l, h, c => by unfold subs; rw [List.mem_append]; exact .inl (subs_self l _ c)
theorem ext_end {l : List Pr} {room : Int} {c y : Ch} : ext l room l.length c y ↔ y = c ∧ y.size ≤ room := by
  unfold ext
  rw [List.drop_length]
  simp [subs]
theorem ext_step {l : List Pr} {room : Int} {i : Nat} {c y : Ch} {p : Pr} (hp : l[i]? = some p) : ext l room i c y ↔ ext l room (i + 1) c y ∨ ext l room (i + 1) (c.add (23 - i) p) y := by
  obtain ⟨hil, hpe⟩ := List.getElem?_eq_some_iff.1 hp
  unfold ext
  rw [List.drop_eq_getElem_cons hil, hpe]
  show (y ∈ subs (l.drop (i + 1)) (23 - i - 1) c ++ subs (l.drop (i + 1)) (23 - i - 1) (c.add (23 - i) p)) ∧ _ ↔ _
  rw [List.mem_append, show 23 - i - 1 = 23 - (i + 1) by omega]
  exact ⟨fun ⟨h, h2⟩ => h.elim (fun h => .inl ⟨h, h2⟩) (fun h => .inr ⟨h, h2⟩), fun h => h.elim (fun ⟨h, h2⟩ => ⟨.inl h, h2⟩) (fun ⟨h, h2⟩ => ⟨.inr h, h2⟩)⟩

/-- a choice that ends ahead of the place k, and its list -/
structure Sta (l : List Pr) (k : Nat) (c : Ch) (L : List Int) : Prop where
  le : k ≤ l.length
  ok : ChOk c (24 - k) (l.length - k)
  idx : ∀ m, k ≤ m → m ≤ l.length → idxL c.bits m = L
  last : (L = [] ∧ k = 0) ∨ (0 < L.length ∧ L[L.length - 1]? = some ((k : Int) - 1))
  len : L.length ≤ k

theorem ChOk.to {c : Ch} {l : List Pr} {k i : Nat} (h : ChOk c (24 - k) (l.length - k)) (hk : k ≤ i) (hi : i ≤ l.length) (hl : l.length ≤ 11) : ChOk c (24 - i) (l.length - i) := by
  refine ⟨?_, h.b2, ?_, ?_⟩
  · have : 2 ^ (24 - i) ∣ c.bits := Nat.dvd_trans (Nat.pow_dvd_pow 2 (by omega)) (Nat.dvd_of_mod_eq_zero h.b1)
    exact Nat.mod_eq_zero_of_dvd this
  · have := h.w; omega
  · have := h.s; omega

theorem bit_lo {b i j : Nat} (hb : b % 2 ^ (24 - i) = 0) (hj : j < i) (hi : i ≤ 11) : (b + 2 ^ (23 - i)) / 2 ^ (23 - j) = b / 2 ^ (23 - j) := by
  obtain ⟨q, hq⟩ := Nat.dvd_of_mod_eq_zero hb
  have e : 2 ^ (23 - j) = 2 ^ (24 - i) * 2 ^ (i - 1 - j) := by rw [← Nat.pow_add]; congr 1; omega
  rw [e, ← Nat.div_div_eq_div_mul, ← Nat.div_div_eq_div_mul]
  congr 1
  have hp := Nat.two_pow_pos (24 - i)
  have h2 : 2 ^ (24 - i) = 2 ^ (23 - i) + 2 ^ (23 - i) := by rw [show 24 - i = 23 - i + 1 by omega, Nat.pow_succ]; omega
  have hp2 := Nat.two_pow_pos (23 - i)
  rw [hq, Nat.mul_add_div hp, Nat.mul_div_cancel_left _ hp, Nat.div_eq_of_lt (by omega)]
  omega
theorem bit_at {b i : Nat} (hb : b % 2 ^ (24 - i) = 0) (hi : i ≤ 11) : (b + 2 ^ (23 - i)) / 2 ^ (23 - i) % 2 = 1 := by
  obtain ⟨q, hq⟩ := Nat.dvd_of_mod_eq_zero hb
  have hp := Nat.two_pow_pos (23 - i)
  have e : b = 2 ^ (23 - i) * (2 * q) := by rw [hq, show 24 - i = 23 - i + 1 by omega, Nat.pow_succ, Nat.mul_assoc]
  rw [Nat.add_div_right _ hp, e, Nat.mul_div_cancel_left _ hp]
  omega
theorem bit_hi {b i m : Nat} (hb : b % 2 ^ (24 - i) = 0) (hm : i < m) (hi : m ≤ 11) : (b + 2 ^ (23 - i)) / 2 ^ (23 - m) % 2 = 0 := by
  obtain ⟨q, hq⟩ := Nat.dvd_of_mod_eq_zero hb
  have hp := Nat.two_pow_pos (23 - m)
  have e : b + 2 ^ (23 - i) = 2 ^ (23 - m) * (2 * (2 ^ (m - i - 1) * (2 * q + 1))) := by
    have e1 : 2 ^ (23 - i) = 2 ^ (23 - m) * (2 * 2 ^ (m - i - 1)) := by
      rw [show 2 * 2 ^ (m - i - 1) = 2 ^ (m - i - 1) * 2 ^ 1 by omega, ← Nat.pow_add, ← Nat.pow_add]; congr 1; omega
    have e2 : b = 2 ^ (23 - i) * (2 * q) := by rw [hq, show 24 - i = 23 - i + 1 by omega, Nat.pow_succ, Nat.mul_assoc]
    rw [e2, ← Nat.mul_succ, e1, Nat.mul_assoc, Nat.mul_assoc]
  rw [e, Nat.mul_div_cancel_left _ hp, Nat.mul_mod_right]

theorem idxL_low {b i : Nat} (hb : b % 2 ^ (24 - i) = 0) (hi : i ≤ 11) : idxL (b + 2 ^ (23 - i)) i = idxL b i := by
  unfold idxL
  congr 1
  refine List.filter_congr fun j hj => ?_
  rw [bit_lo hb (List.mem_range.1 hj) hi]
theorem idxL_more {b i m : Nat} (hb : b % 2 ^ (24 - i) = 0) (hm : i + 1 ≤ m) (hm2 : m ≤ 11) : idxL (b + 2 ^ (23 - i)) m = idxL b i ++ [(i : Int)] := by
  induction m with
  | zero => omega
  | succ m ih =>
    rw [idxL_succ]
    by_cases e : m = i
    · subst e
      rw [if_pos (bit_at hb (by omega)), idxL_low hb (by omega)]
    · rw [if_neg (by rw [bit_hi hb (by omega) (by omega)]; decide)]
      exact ih (by omega) (by omega)

theorem Sta.start {l : List Pr} (hl : l.length ≤ 11) : Sta l 0 c00 [] := by
  refine ⟨Nat.zero_le _, ⟨by simp [c00], by simp [c00], ?_, ?_⟩, fun m _ _ => ?_, .inl ⟨rfl, rfl⟩, Nat.le_refl _⟩
  · simp only [c00]; omega
  · simp only [c00]; omega
  · unfold idxL
    rw [List.filter_eq_nil_iff.2 (fun j _ => by simp [c00])]; rfl
theorem Sta.more {l : List Pr} (hl : l.length ≤ 11) {k i : Nat} {c : Ch} {L : List Int} {p : Pr} (h : Sta l k c L) (hk : k ≤ i) (hp : l[i]? = some p) (hpo : p.ok) : Sta l (i + 1) (c.add (23 - i) p) (L ++ [(i : Int)]) := by
  have hil := (List.getElem?_eq_some_iff.1 hp).1
  have hok := h.ok.to hk (Nat.le_of_lt hil) hl
  have e1 : 24 - i = 23 - i + 1 := by omega
  have e2 : l.length - i = l.length - (i + 1) + 1 := by omega
  have hok2 := hok
  rw [e1, e2] at hok2
  refine ⟨hil, ?_, fun m hm hm2 => ?_, .inr ⟨by simp, ?_⟩, ?_⟩
  · have := hok2.add (by omega) hpo
    rw [show 24 - (i + 1) = 23 - i by omega]; exact this
  · show idxL (c.bits + 2 ^ (23 - i)) m = _
    rw [idxL_more hok.b1 hm (by omega), h.idx i hk (Nat.le_of_lt hil)]
  · rw [List.length_append, List.length_singleton, Nat.add_sub_cancel, List.getElem?_append_right (Nat.le_refl _), Nat.sub_self]
    simp
  · have := h.len
    rw [List.length_append, List.length_singleton]; omega

/-- what has been seen up to the place i -/
structure SeenX (l : List Pr) (room : Int) (k : Nat) (c : Ch) (i : Nat) (x : Ch) : Prop where
  top : ∃ S : Ch → Prop, Top S x ∧ S c ∧ ∀ y, ext l room k c y ↔ S y ∨ ext l room i c y
  bits : x = c ∨ c.bits + 2 ^ (24 - i) ≤ x.bits
theorem SeenX.start {l : List Pr} {room : Int} {k : Nat} {c : Ch} (hc : c.size ≤ room) : SeenX l room k c k c :=
  ⟨⟨fun y => y = c, ⟨rfl, fun y hy => by rw [hy]; exact betB_irr _⟩, rfl, fun y => ⟨.inr, fun h => h.elim (fun h => by rw [h]; exact ⟨subs_self _ _ _, hc⟩) id⟩⟩, .inl rfl⟩
theorem SeenX.stop {l : List Pr} {room : Int} {k : Nat} {c x : Ch} (h : SeenX l room k c l.length x) : Top (ext l room k c) x := by
  obtain ⟨S, h1, h2, h3⟩ := h.top
  refine h1.congr fun y => ⟨fun h => (h3 y).2 (.inl h), fun h => ((h3 y).1 h).elim id fun h => ?_⟩
  rw [(ext_end.1 h).1]; exact h2
theorem ext_mem {l : List Pr} (hok : ∀ p ∈ l, p.ok) (hl : l.length ≤ 11) {room : Int} {i : Nat} {c y : Ch} {p : Pr} (hb : c.bits % 2 ^ (24 - i) = 0) (hp : l[i]? = some p) (h : ext l room (i + 1) (c.add (23 - i) p) y) :
    c.size + p.size ≤ y.size ∧ y.bits < c.bits + 2 ^ (24 - i) ∧ c.bits + 2 ^ (23 - i) ≤ y.bits := by
  have hil := (List.getElem?_eq_some_iff.1 hp).1
  have e1 : 2 ^ (24 - i) = 2 ^ (23 - i) + 2 ^ (23 - i) := by rw [show 24 - i = 23 - i + 1 by omega, Nat.pow_succ]; omega
  have hb2 : (c.add (23 - i) p).bits % 2 ^ (23 - (i + 1) + 1) = 0 := by
    show (c.bits + 2 ^ (23 - i)) % _ = 0
    rw [show 23 - (i + 1) + 1 = 23 - i by omega, Nat.add_mod_right]
    rw [show 24 - i = 23 - i + 1 by omega] at hb
    exact dvd_half hb
  obtain ⟨_, ⟨a2, _⟩, _, a4, a5⟩ := subs_mem (fun q hq => hok q (List.mem_of_mem_drop hq)) h.1 (by rw [List.length_drop]; omega) hb2
  rw [show 23 - (i + 1) + 1 = 23 - i by omega] at a5
  unfold Ch.add at a2 a4 a5
  simp only at a2 a4 a5
  exact ⟨a2, by omega, a4⟩
theorem SeenX.skip {l : List Pr} (hok : ∀ p ∈ l, p.ok) (hl : l.length ≤ 11) {room : Int} {k i : Nat} {c x : Ch} {p : Pr} (h : SeenX l room k c i x) (hb : c.bits % 2 ^ (24 - i) = 0) (hp : l[i]? = some p) (hn : c.size + p.size > room) : SeenX l room k c (i + 1) x := by
  have hil := (List.getElem?_eq_some_iff.1 hp).1
  obtain ⟨S, h1, h2, h3⟩ := h.top
  refine ⟨⟨S, h1, h2, fun y => ?_⟩, h.bits.imp id fun h => ?_⟩
  · rw [h3 y, ext_step hp]
    refine ⟨fun h => h.elim .inl fun h => h.elim .inr fun h => ?_, fun h => h.elim .inl fun h => .inr (.inl h)⟩
    obtain ⟨a, _, _⟩ := ext_mem hok hl hb hp h
    have := h.2
    omega
  · have : 2 ^ (24 - (i + 1)) ≤ 2 ^ (24 - i) := Nat.pow_le_pow_right (by omega) (by omega)
    omega
/-- the comparison of the document -/
def betR (z x : Ch) : Bool := decide (z.worth > x.worth ∨ z.worth = x.worth ∧ z.size < x.size)
theorem SeenX.take {l : List Pr} (hok : ∀ p ∈ l, p.ok) (hl : l.length ≤ 11) {room : Int} {k i : Nat} {c x z : Ch} {p : Pr} (h : SeenX l room k c i x) (hb : c.bits % 2 ^ (24 - i) = 0) (hp : l[i]? = some p) (hz : Top (ext l room (i + 1) (c.add (23 - i) p)) z) :
    SeenX l room k c (i + 1) (if betR z x then z else x) := by
  have hil := (List.getElem?_eq_some_iff.1 hp).1
  have hpo := hok p (List.mem_of_getElem? hp)
  obtain ⟨⟨p1, _⟩, _⟩ := hpo
  obtain ⟨z1, z2, z3⟩ := ext_mem hok hl hb hp hz.mem
  have e1 : 2 ^ (24 - (i + 1)) = 2 ^ (23 - i) := by rw [show 24 - (i + 1) = 23 - i by omega]
  have e2 : 2 ^ (24 - (i + 1)) ≤ 2 ^ (24 - i) := Nat.pow_le_pow_right (by omega) (by omega)
  have hbet : betR z x = betB z x := by
    unfold betR betB
    congr 1
    refine propext ⟨fun h => by omega, fun h2 => ?_⟩
    rcases h.bits with rfl | hx
    · omega
    · omega
  obtain ⟨S, h1, h2, h3⟩ := h.top
  refine ⟨⟨fun y => S y ∨ ext l room (i + 1) (c.add (23 - i) p) y, ?_, .inl h2, fun y => ?_⟩, ?_⟩
  · rw [hbet]; exact h1.join hz
  · rw [h3 y, ext_step hp]
    exact ⟨fun h => h.elim (fun h => .inl (.inl h)) fun h => h.elim .inr fun h => .inl (.inr h), fun h => h.elim (fun h => h.elim .inl fun h => .inr (.inr h)) fun h => .inr (.inl h)⟩
  · cases betR z x with
    | true => rw [if_pos rfl]; exact .inr (by omega)
    | false => rw [if_neg (by simp)]; exact h.bits.imp id fun h => by omega

end Go.Proofs.Ytlhchnnfgppneaa.Ab
