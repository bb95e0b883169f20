/- Fields: Ask, from the deferred call on. -/
import Derived.Test.YtehagceghnjamaaD4
import Derived.Test.YtehagceghnjamaaD2
namespace Go.Proofs.Ytehagceghnjamaa.Ab
open Go Go.RowKit Go.Proofs
set_option linter.unusedSimpArgs false
set_option linter.unusedVariables false
attribute [local irreducible] Awp wpO thenQ blockQ bodyQ ACalls stepA

def tbl (a : Nat) : List AV := [.val .nilFunc, .mth 77 [.mptr a 0 0], .mth 78 [.mptr a 0 0], .mth 79 [.mptr a 0 0], .mth 80 [.mptr a 0 0], .mth 81 [.mptr a 0 0], .mth 82 [.mptr a 0 0]]
theorem bd120 (a : Nat) : buildA Try.prog 120 [(1, .mth 77 [.mptr a 0 0]), (2, .mth 78 [.mptr a 0 0]), (3, .mth 79 [.mptr a 0 0]), (4, .mth 80 [.mptr a 0 0]), (5, .mth 81 [.mptr a 0 0]), (6, .mth 82 [.mptr a 0 0])] = some (.agg (tbl a)) := by kernel_rfl

/-- what stands in the heap while Ask runs -/
structure Base (H : Hp) (f : Fd) (l : List Seen) (ex : Bool) (H' : Hp) : Prop where
  pre : H'.take H.length = H
  x : H'[H.length]? = some (.cells [[iv 0]] 65)
  e : H'[H.length + 1]? = some (.cells [[iv 0]] 28)
  s : H'[H.length + 2]? = some (sea f (.rsl (l.map Seen.cs) ex) (.rsl ((setsUp f l f.n).map Sp.cs) false))

section base
variable {H : Hp} {f : Fd} {l : List Seen} {ex : Bool} {H' : Hp}

theorem Base.lt (h : Base H f l ex H') : H.length + 3 ≤ H'.length := by
  have := lt_of_get h.s
  omega

theorem Base.app (h : Base H f l ex H') (X : Hp) : Base H f l ex (H' ++ X) := by
  have hl := h.lt
  refine ⟨?_, ?_, ?_, ?_⟩
  · rw [List.take_append_of_le_length (by omega)]; exact h.pre
  · rw [List.getElem?_append_left (by omega)]; exact h.x
  · rw [List.getElem?_append_left (by omega)]; exact h.e
  · rw [List.getElem?_append_left (by omega)]; exact h.s

theorem Base.set (h : Base H f l ex H') {i : Nat} (o : AObj) (hi : H.length + 3 ≤ i) : Base H f l ex (H'.set i o) := by
  refine ⟨?_, ?_, ?_, ?_⟩
  · rw [List.take_set_of_le (by omega)]; exact h.pre
  · rw [List.getElem?_set_ne (by omega)]; exact h.x
  · rw [List.getElem?_set_ne (by omega)]; exact h.e
  · rw [List.getElem?_set_ne (by omega)]; exact h.s

/-- what is shown at the end -/
theorem Base.split (h : Base H f l ex H') : H' = H ++ H'.drop H.length := by
  have := List.take_append_drop H.length H'
  rw [h.pre] at this
  exact this.symm
end base

theorem Stack.app {H : Hp} {a : Nat} {stk : AV} {st : List Int} (h : Stack H a stk st) (X : Hp) : Stack (H ++ X) a stk st := by
  cases h with
  | own hb hne h0 => exact .own (by rw [List.getElem?_append_left (lt_of_get hb)]; exact hb) hne h0
  | shut => exact .shut
  | no => exact .no

structure Good (H : Hp) (f : Fd) (l : List Seen) (ex : Bool) (a : Nat) (stk : AV) (st : List Int) (H' : Hp) : Prop where
  base : Base H f l ex H'
  low : H.length + 3 ≤ a
  ha : H'[a]? = some (asker (H.length + 2) stk)
  ht : H'[a + 1]? = some (.cells [tbl a] 120)
  k : Stack H' a stk st
  own : ∀ b i n, stk = .msl b i n → a + 1 < b

section good
variable {H : Hp} {f : Fd} {l : List Seen} {ex : Bool} {a : Nat} {stk : AV} {st : List Int} {H' : Hp}

theorem Good.app (h : Good H f l ex a stk st H') (X : Hp) : Good H f l ex a stk st (H' ++ X) :=
  ⟨h.base.app X, h.low, by rw [List.getElem?_append_left (lt_of_get h.ha)]; exact h.ha, by rw [List.getElem?_append_left (lt_of_get h.ht)]; exact h.ht, h.k.app X, h.own⟩

theorem Good.pop (h : Good H f l ex a stk st H') (t : List Int) : Good H f l ex a (.rsl (ints t.reverse) true) t (popH H' a (H.length + 2) stk t) := by
  have hl := h.low
  have ha := lt_of_get h.ha
  refine ⟨?_, hl, popH_get ha, ?_, .shut, fun _ _ _ e => by cases e⟩
  · unfold popH
    refine Base.set ?_ _ hl
    split
    · rename_i b i n
      exact h.base.set _ (by have := h.own _ _ _ rfl; omega)
    · exact h.base
  · unfold popH
    rw [List.getElem?_set_ne (by omega)]
    split
    · rename_i b i n
      rw [List.getElem?_set_ne (by have := h.own _ _ _ rfl; omega)]
      exact h.ht
    · exact h.ht

/-- one part of the question: its answer, or the panic -/
theorem Good.step (h : Good H f l ex a stk st H') (hf : f.ok) (hl : f.seenOk l) (p : Part) (hp : partOk f p) (hm : st.length ≤ 40) (h2 : ∀ x ∈ st, 0 ≤ x ∧ x ≤ 2) :
    ∃ k : Nat, (k : Int) = p.k ∧ 1 ≤ k ∧ k ≤ 6 ∧ ((∃ y t stk' H2, stepQ f l p st = some (y :: t) ∧ (0 ≤ y ∧ y ≤ 2) ∧ (∀ x ∈ t, 0 ≤ x ∧ x ≤ 2) ∧ t.length ≤ st.length ∧ Good H f l ex a stk' t H2 ∧ CallsTo Try.prog (76 + k) [.mptr a 0 0, .agg p.cs] H' (iv y) H2) ∨
      (stepQ f l p st = none ∧ ACallsP Try.prog (76 + k) [.mptr a 0 0, .agg p.cs] H' fun c H2 => c = c21 ∧ ∃ stk' t, Good H f l ex a stk' t H2)) := by
  obtain ⟨_, hk⟩ := hp
  have hab : ∀ s : Sp, 0 ≤ aboveV s p.lim ∧ aboveV s p.lim ≤ 2 := fun s => by unfold aboveV; split <;> (try split) <;> omega
  have hkept : ∀ c H2, kept a (H.length + 2) stk H' c H2 → c = c21 ∧ ∃ stk' t, Good H f l ex a stk' t H2 := fun c H2 hk => ⟨hk.1, hk.2.elim (fun e => ⟨stk, st, by rw [e]; exact h⟩) fun e => ⟨.rsl (ints ([] : List Int).reverse) true, [], by rw [e]; exact h.pop []⟩⟩
  by_cases k1 : p.k = 1
  · rw [if_neg (by omega), if_pos k1] at hk
    refine ⟨1, by omega, by omega, by omega, .inl ⟨_, st, stk, H', by unfold stepQ; rw [if_pos k1], hab _, h2, Nat.le_refl _, h, ?_⟩⟩
    exact spot_ok H' a (H.length + 2) f hf l hl _ stk false h.ha h.base.s p hk
  by_cases k2 : p.k = 2
  · rw [if_pos k2] at hk
    refine ⟨2, by omega, by omega, by omega, .inl ⟨_, st, stk, H', by unfold stepQ; rw [if_neg k1, if_pos k2], hab _, h2, Nat.le_refl _, h, ?_⟩⟩
    exact more_ok H' a (H.length + 2) f hf l hl _ stk false h.ha h.base.s p hk.1 hk.2
  by_cases k3 : p.k = 3
  · rw [if_neg k2, if_neg k1, if_pos k3] at hk
    refine ⟨3, by omega, by omega, by omega, .inl ⟨_, st, stk, H', by unfold stepQ; rw [if_neg k1, if_neg k2, if_pos k3], hab _, h2, Nat.le_refl _, h, ?_⟩⟩
    exact region_ok H' a (H.length + 2) f hf l hl _ stk false h.ha h.base.s p hk.1 hk.2.1 hk.2.2
  rw [if_neg k2, if_neg k1, if_neg k3] at hk
  by_cases k4 : p.k = 4
  · refine ⟨4, by omega, by omega, by omega, ?_⟩
    rcases st with _ | ⟨x, t⟩
    · exact .inr ⟨by unfold stepQ; rw [if_neg k1, if_neg k2, if_neg k3, if_pos k4], (notP_no H' a _ stk h.ha h.k p).mono hkept⟩
    · have hx := h2 x (by simp)
      exact .inl ⟨2 - x, t, _, _, by unfold stepQ; rw [if_neg k1, if_neg k2, if_neg k3, if_pos k4], by omega, fun z hz => h2 z (by simp [hz]), by simp, h.pop t, not_ok H' a _ stk x t h.ha h.k (by simp at hm; omega) hx p⟩
  by_cases k5 : p.k = 5
  · refine ⟨5, by omega, by omega, by omega, ?_⟩
    rcases st with _ | ⟨x, _ | ⟨y, t⟩⟩
    · exact .inr ⟨by unfold stepQ; rw [if_neg k1, if_neg k2, if_neg k3, if_neg k4], (allP_no H' a _ stk [] (by simp) h.ha h.k p).mono hkept⟩
    · exact .inr ⟨by unfold stepQ; rw [if_neg k1, if_neg k2, if_neg k3, if_neg k4], (allP_no H' a _ stk [x] (by simp) h.ha h.k p).mono hkept⟩
    · have hx := h2 x (by simp)
      have hy := h2 y (by simp)
      exact .inl ⟨min x y, t, _, _, by unfold stepQ; rw [if_neg k1, if_neg k2, if_neg k3, if_neg k4]; simp [k5], by omega, fun z hz => h2 z (by simp [hz]), by simp; omega, h.pop t, all_ok H' a _ stk x y t h.ha h.k (by simp at hm; omega) p⟩
  · refine ⟨6, by omega, by omega, by omega, ?_⟩
    rcases st with _ | ⟨x, _ | ⟨y, t⟩⟩
    · exact .inr ⟨by unfold stepQ; rw [if_neg k1, if_neg k2, if_neg k3, if_neg k4], (anyP_no H' a _ stk [] (by simp) h.ha h.k p).mono hkept⟩
    · exact .inr ⟨by unfold stepQ; rw [if_neg k1, if_neg k2, if_neg k3, if_neg k4], (anyP_no H' a _ stk [x] (by simp) h.ha h.k p).mono hkept⟩
    · have hx := h2 x (by simp)
      have hy := h2 y (by simp)
      exact .inl ⟨max x y, t, _, _, by unfold stepQ; rw [if_neg k1, if_neg k2, if_neg k3, if_neg k4]; simp [k5], by omega, fun z hz => h2 z (by simp [hz]), by simp; omega, h.pop t, any_ok H' a _ stk x y t h.ha h.k (by simp at hm; omega) p⟩
end good

end Go.Proofs.Ytehagceghnjamaa.Ab
