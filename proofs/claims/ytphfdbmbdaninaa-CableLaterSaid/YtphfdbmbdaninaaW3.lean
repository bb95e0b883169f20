/- Cables: paths and subtrees. -/
import Derived.Test.YtphfdbmbdaninaaW2
namespace Go.Proofs.Ytphfdbmbdaninaa.Ab
open Go Go.RowKit Go.Proofs
set_option linter.unusedSimpArgs false
set_option linter.unusedVariables false
attribute [local irreducible] Awp wpO thenQ blockQ bodyQ ACalls stepA

def parN (l : List Nd) (k : Nat) : Int := match l[k]? with
  | some a => a.par
  | none => -1

/-- the path of a node -/
def pth (l : List Nd) (k : Nat) : List Nat :=
  k :: (if h : 0 ≤ parN l k ∧ (parN l k).toNat < k then pth l (parN l k).toNat else [])
termination_by k
decreasing_by exact h.2

structure Tr (l : List Nd) : Prop where
  root : parN l 0 = -1
  up : ∀ k, 0 < k → k < l.length → 0 ≤ parN l k ∧ (parN l k).toNat < k

theorem pth_ne (l : List Nd) (k : Nat) : pth l k ≠ [] := by rw [pth]; simp
theorem pth_head (l : List Nd) (k : Nat) : (pth l k)[0]? = some k := by rw [pth]; rfl
theorem pth_self (l : List Nd) (k : Nat) : k ∈ pth l k := by rw [pth]; simp
theorem pth_pos {l : List Nd} (k : Nat) (h : 0 ≤ parN l k ∧ (parN l k).toNat < k) : pth l k = k :: pth l (parN l k).toNat := by
  rw [pth, dif_pos h]
theorem pth_zero {l : List Nd} (t : Tr l) : pth l 0 = [0] := by
  rw [pth, dif_neg (by rw [t.root]; omega)]

theorem pth_le (l : List Nd) (k : Nat) : ∀ i, i ∈ pth l k → i ≤ k := by
  induction k using Nat.strongRecOn with
  | _ k ih =>
    intro i hi
    by_cases h : 0 ≤ parN l k ∧ (parN l k).toNat < k
    · rw [pth_pos k h] at hi
      rcases List.mem_cons.1 hi with rfl | hi
      · exact Nat.le_refl _
      · have := ih _ h.2 i hi; omega
    · rw [pth, dif_neg h] at hi
      simp at hi; omega

theorem pth_root {l : List Nd} (t : Tr l) (k : Nat) : k < l.length → 0 ∈ pth l k := by
  induction k using Nat.strongRecOn with
  | _ k ih =>
    intro hk
    rcases Nat.eq_zero_or_pos k with rfl | h0
    · exact pth_self _ _
    · have h := t.up k h0 hk
      rw [pth_pos k h]
      exact List.mem_cons_of_mem _ (ih _ h.2 (by omega))

theorem pth_trans (l : List Nd) (k : Nat) : ∀ i j, i ∈ pth l k → j ∈ pth l i → j ∈ pth l k := by
  induction k using Nat.strongRecOn with
  | _ k ih =>
    intro i j hi hj
    by_cases h : 0 ≤ parN l k ∧ (parN l k).toNat < k
    · rw [pth_pos k h] at hi ⊢
      rcases List.mem_cons.1 hi with rfl | hi
      · rw [pth_pos i h] at hj; exact hj
      · exact List.mem_cons_of_mem _ (ih _ h.2 i j hi hj)
    · rw [pth, dif_neg h] at hi
      simp at hi; subst hi; exact hj

/-- of two nodes of a path one is on the path of the other -/
theorem pth_lin (l : List Nd) (k : Nat) : ∀ i j, i ∈ pth l k → j ∈ pth l k → j ≤ i → j ∈ pth l i := by
  induction k using Nat.strongRecOn with
  | _ k ih =>
    intro i j hi hj hji
    by_cases h : 0 ≤ parN l k ∧ (parN l k).toNat < k
    · rw [pth_pos k h] at hi
      rcases List.mem_cons.1 hi with rfl | hi
      · exact hj
      · rw [pth_pos k h] at hj
        rcases List.mem_cons.1 hj with rfl | hj
        · have := pth_le l _ _ hi; omega
        · exact ih _ h.2 i j hi hj hji
    · rw [pth, dif_neg h] at hi hj
      simp at hi hj; subst hi; subst hj; exact pth_self _ _

theorem pth_dec (l : List Nd) (k : Nat) : (pth l k).Pairwise (· > ·) := by
  induction k using Nat.strongRecOn with
  | _ k ih =>
    by_cases h : 0 ≤ parN l k ∧ (parN l k).toNat < k
    · rw [pth_pos k h]
      refine List.pairwise_cons.2 ⟨fun i hi => ?_, ih _ h.2⟩
      have := pth_le l _ _ hi; omega
    · rw [pth, dif_neg h]; simp

theorem pth_len (l : List Nd) (k : Nat) : (pth l k).length ≤ k + 1 := by
  induction k using Nat.strongRecOn with
  | _ k ih =>
    by_cases h : 0 ≤ parN l k ∧ (parN l k).toNat < k
    · rw [pth_pos k h]; have := ih _ h.2; simp; omega
    · rw [pth, dif_neg h]; simp

/-- the next node of a path is the parent -/
theorem pth_step (l : List Nd) (k : Nat) : ∀ j i, (pth l k)[j]? = some i → (pth l k)[j + 1]? = (if 0 ≤ parN l i ∧ (parN l i).toNat < i then some (parN l i).toNat else none) := by
  induction k using Nat.strongRecOn with
  | _ k ih =>
    intro j i hj
    by_cases h : 0 ≤ parN l k ∧ (parN l k).toNat < k
    · rw [pth_pos k h] at hj ⊢
      cases j with
      | zero => simp at hj; subst hj; rw [if_pos h]; simp [pth_head]
      | succ j => simp at hj ⊢; exact ih _ h.2 j i hj
    · rw [pth, dif_neg h] at hj ⊢
      cases j with
      | zero => simp at hj; subst hj; rw [if_neg h]; rfl
      | succ j => simp at hj

/-- the subtree of a node -/
def sub (l : List Nd) (k : Nat) : List Nat := (List.range l.length).filter fun i => decide (k ∈ pth l i)

theorem mem_sub {l : List Nd} {k i : Nat} : i ∈ sub l k ↔ i < l.length ∧ k ∈ pth l i := by simp [sub]
theorem sub_self {l : List Nd} {k : Nat} (h : k < l.length) : k ∈ sub l k := mem_sub.2 ⟨h, pth_self _ _⟩
theorem sub_zero {l : List Nd} (t : Tr l) : sub l 0 = List.range l.length := by
  unfold sub
  rw [List.filter_eq_self]
  intro i hi
  exact decide_eq_true (pth_root t i (by simpa using hi))
theorem sub_pair (l : List Nd) (k : Nat) : (sub l k).Pairwise (· < ·) := List.Pairwise.filter _ List.pairwise_lt_range

/-- the nodes that a node leads to -/
def chi (l : List Nd) (k : Nat) : List Nat := (List.range l.length).filter fun i => decide (k < i ∧ parN l i = k)
theorem mem_chi {l : List Nd} {k i : Nat} : i ∈ chi l k ↔ i < l.length ∧ k < i ∧ parN l i = k := by simp [chi]

/-- depth first -/
def pre (l : List Nd) : Nat → Nat → List Nat
  | 0, k => [k]
  | f + 1, k => k :: (chi l k).flatMap (pre l f)

theorem mem_pre {l : List Nd} (t : Tr l) : ∀ f k i, k < l.length → l.length ≤ f + k + 1 → (i ∈ pre l f k ↔ i ∈ sub l k)
  | 0, k, i, hk, hf => by
    simp only [pre, List.mem_singleton, mem_sub]
    constructor
    · rintro rfl; exact ⟨hk, pth_self _ _⟩
    · rintro ⟨h1, h2⟩; have := pth_le l i k h2; omega
  | f + 1, k, i, hk, hf => by
    simp only [pre, List.mem_cons, List.mem_flatMap]
    constructor
    · rintro (rfl | ⟨j, hj, hi⟩)
      · exact sub_self hk
      · obtain ⟨h1, h2, h3⟩ := mem_chi.1 hj
        have := (mem_pre t f j i h1 (by omega)).1 hi
        obtain ⟨h4, h5⟩ := mem_sub.1 this
        refine mem_sub.2 ⟨h4, pth_trans l i j k h5 ?_⟩
        rw [pth_pos j ⟨by omega, by omega⟩]
        refine List.mem_cons_of_mem _ ?_
        rw [h3]; exact pth_self _ _
    · intro hi
      obtain ⟨h1, h2⟩ := mem_sub.1 hi
      by_cases e : i = k
      · exact .inl e
      · right
        -- the node below k on the path of i
        have key : ∀ i, i < l.length → k ∈ pth l i → i ≠ k → ∃ j, j ∈ chi l k ∧ j ∈ pth l i := by
          intro i
          induction i using Nat.strongRecOn with
          | _ i ih =>
            intro hi h2 e
            have h0 := pth_le l i k h2
            have hu := t.up i (by omega) hi
            rw [pth_pos i hu] at h2 ⊢
            rcases List.mem_cons.1 h2 with h | h
            · exact absurd h.symm e
            · by_cases e2 : (parN l i).toNat = k
              · exact ⟨i, mem_chi.2 ⟨hi, by omega, by omega⟩, by simp⟩
              · obtain ⟨j, hj, hj2⟩ := ih _ hu.2 (by omega) h e2
                exact ⟨j, hj, List.mem_cons_of_mem _ hj2⟩
        obtain ⟨j, hj, hj2⟩ := key i h1 h2 e
        obtain ⟨q1, q2, q3⟩ := mem_chi.1 hj
        exact ⟨j, hj, (mem_pre t f j i q1 (by omega)).2 (mem_sub.2 ⟨h1, hj2⟩)⟩

theorem pre_nodup {l : List Nd} (t : Tr l) : ∀ f k, k < l.length → l.length ≤ f + k + 1 → (pre l f k).Nodup
  | 0, k, _, _ => by simp [pre]
  | f + 1, k, hk, hf => by
    simp only [pre]
    refine List.nodup_cons.2 ⟨fun h => ?_, ?_⟩
    · obtain ⟨j, hj, hi⟩ := List.mem_flatMap.1 h
      obtain ⟨h1, h2, h3⟩ := mem_chi.1 hj
      have := (mem_sub.1 ((mem_pre t f j k h1 (by omega)).1 hi)).2
      have := pth_le l k j this
      omega
    · unfold List.Nodup
      rw [List.pairwise_flatMap]
      refine ⟨fun j hj => ?_, ?_⟩
      · obtain ⟨h1, h2, h3⟩ := mem_chi.1 hj
        exact pre_nodup t f j h1 (by omega)
      · have hp : (chi l k).Pairwise (· < ·) := List.Pairwise.filter _ List.pairwise_lt_range
        refine List.Pairwise.imp_of_mem ?_ hp
        intro a b ha hb hab x hx y hy e
        subst e
        obtain ⟨a1, a2, a3⟩ := mem_chi.1 ha
        obtain ⟨b1, b2, b3⟩ := mem_chi.1 hb
        have xa := (mem_sub.1 ((mem_pre t f a x a1 (by omega)).1 hx)).2
        have xb := (mem_sub.1 ((mem_pre t f b x b1 (by omega)).1 hy)).2
        have := pth_lin l x b a xb xa (by omega)
        rw [pth_pos b ⟨by omega, by omega⟩] at this
        rcases List.mem_cons.1 this with h | h
        · omega
        · have := pth_le l _ _ h; rw [b3] at this; omega

theorem pre_perm {l : List Nd} (t : Tr l) {k : Nat} (hk : k < l.length) : (pre l l.length k).Perm (sub l k) := by
  rw [List.perm_ext_iff_of_nodup (pre_nodup t _ _ hk (by omega)) ((sub_pair l k).imp (fun h => by omega))]
  intro i; exact mem_pre t _ _ _ hk (by omega)

theorem good_tr {c : Cb} (h : c.good) : Tr c.l := by
  obtain ⟨h1, h20, hs, hn⟩ := h.h
  have key : ∀ k, k < c.l.length → headOk k (c.l[k]?.getD ⟨0,0,0,0,0,0,0,0⟩) ∧ parN c.l k = (c.l[k]?.getD ⟨0,0,0,0,0,0,0,0⟩).par := fun k hk => by
    obtain ⟨a, ha⟩ := nth hk
    rw [ha]
    exact ⟨(hn k a ha).1, by simp [parN, ha]⟩
  refine ⟨?_, fun k h0 hk => ?_⟩
  · obtain ⟨k1, k2⟩ := key 0 (by omega)
    rw [k2]
    unfold headOk at k1
    omega
  · obtain ⟨k1, k2⟩ := key k hk
    rw [k2]
    unfold headOk at k1
    omega

/-- what the box of a path's node holds -/
def pathV (l : List Nd) (k j : Nat) : Int := match (pth l k)[j]? with
  | some p => (p : Int)
  | none => -1

theorem pathV_at {l : List Nd} {k j p : Nat} (h : (pth l k)[j]? = some p) : pathV l k j = p := by unfold pathV; rw [h]
theorem pathV_end {l : List Nd} {k : Nat} : pathV l k (pth l k).length = -1 := by unfold pathV; rw [List.getElem?_eq_none (Nat.le_refl _)]
theorem pathV_zero {l : List Nd} {k : Nat} : pathV l k 0 = k := pathV_at (pth_head l k)
theorem pth_lt {l : List Nd} {k : Nat} (hk : k < l.length) {j p : Nat} (h : (pth l k)[j]? = some p) : p < l.length := by
  have := pth_le l k p (List.mem_of_getElem? h)
  omega
theorem pathV_next {c : Cb} (hg : c.good) {k : Nat} (hk : k < c.l.length) {j p : Nat} {a : Nd} (h : (pth c.l k)[j]? = some p) (ha : c.l[p]? = some a) : pathV c.l k (j + 1) = a.par := by
  have e : parN c.l p = a.par := by simp [parN, ha]
  have hs := pth_step c.l k j p h
  have t := good_tr hg
  unfold pathV
  rw [hs, e]
  rcases Nat.eq_zero_or_pos p with rfl | h0
  · have := t.root
    rw [e] at this
    rw [if_neg (by omega), this]
  · have := t.up p h0 (pth_lt hk h)
    rw [e] at this
    rw [if_pos (by omega)]
    show ((a.par.toNat : Nat) : Int) = a.par
    omega

end Go.Proofs.Ytphfdbmbdaninaa.Ab
