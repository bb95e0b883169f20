/- Cables: the order by ranks, plain. -/
import Derived.Test.YtphfdbmbdaninaaUJ
namespace Go.Proofs.Ytphfdbmbdaninaa.Ab
open Go Go.RowKit Go.Proofs
set_option linter.unusedSimpArgs false
set_option linter.unusedVariables false
attribute [local irreducible] Awp wpO thenQ blockQ bodyQ ACalls stepA

/-- a comes before b: a greater rank, or the same and a lesser number -/
def Bef (r : List Int) (a b : Nat) : Prop := gA r b < gA r a ∨ (gA r a = gA r b ∧ a < b)
instance (r : List Int) (a b : Nat) : Decidable (Bef r a b) := by unfold Bef; infer_instance
theorem Bef.trans {r : List Int} {a b c : Nat} (h : Bef r a b) (k : Bef r b c) : Bef r a c := by unfold Bef at *; omega
theorem Bef.irrefl (r : List Int) (a : Nat) : ¬ Bef r a a := by unfold Bef; omega
theorem Bef.total {r : List Int} {a b : Nat} (h : ¬ Bef r a b) (k : ¬ Bef r b a) : a = b := by unfold Bef at *; omega
theorem cfR_neg {r : List Int} {a b : Nat} : Cp.cfR r a b < 0 ↔ Bef r a b := by
  have e : Cp.cfR r a b = if cmpI (gA r b) (gA r a) ≠ 0 then cmpI (gA r b) (gA r a) else if cmpI a b ≠ 0 then cmpI a b else 0 := rfl
  rw [e]
  unfold cmpI Bef
  by_cases h1 : gA r b < gA r a
  · simp [h1]
  · by_cases h2 : gA r b > gA r a
    · have h3 : ¬ gA r a = gA r b := by omega
      simp [h1, h2, h3]
    · have h3 : gA r a = gA r b := by omega
      by_cases h4 : a < b
      · have : (a : Int) < (b : Int) := by omega
        simp [h3, h4, this]
      · have h5 : ¬ (a : Int) < (b : Int) := by omega
        by_cases h6 : (a : Int) > (b : Int)
        · simp [h3, h4, h5, h6]
        · simp [h3, h4, h5, h6]

/-- where k goes, from the end -/
def atI (r : List Int) (k : Nat) (l : List Nat) : Nat → Nat
  | 0 => 0
  | i + 1 => if gA r (l.getD i 0) < gA r k then atI r k l i else i + 1
theorem atI_le (r : List Int) (k : Nat) (l : List Nat) : ∀ i, atI r k l i ≤ i
  | 0 => Nat.le_refl _
  | i + 1 => by unfold atI; split
                · have := atI_le r k l i; omega
                · exact Nat.le_refl _
theorem atI_over (r : List Int) (k : Nat) (l : List Nat) : ∀ i j, atI r k l i ≤ j → j < i → gA r (l.getD j 0) < gA r k
  | 0, j, _, h => by omega
  | i + 1, j, h1, h2 => by
    unfold atI at h1
    split at h1
    · rename_i h
      by_cases e : j = i
      · subst e; exact h
      · exact atI_over r k l i j h1 (by omega)
    · omega
theorem atI_stop (r : List Int) (k : Nat) (l : List Nat) : ∀ i, 0 < atI r k l i → ¬ gA r (l.getD (atI r k l i - 1) 0) < gA r k
  | 0, h => by simp [atI] at h
  | i + 1, h => by
    unfold atI at h ⊢
    split
    · rename_i hc
      rw [if_pos hc] at h
      exact atI_stop r k l i h
    · rename_i hc
      simpa using hc
def insO (r : List Int) (k : Nat) (l : List Nat) : List Nat := l.take (atI r k l l.length) ++ k :: l.drop (atI r k l l.length)
def ordL (r : List Int) : Nat → List Nat
  | 0 => []
  | k + 1 => insO r k (ordL r k)

theorem insO_perm (r : List Int) (k : Nat) (l : List Nat) : (insO r k l).Perm (k :: l) := by
  unfold insO
  refine List.perm_middle.trans ?_
  rw [List.take_append_drop]
theorem insO_pair {r : List Int} {k : Nat} {l : List Nat} (h : l.Pairwise (Bef r)) (hk : ∀ x ∈ l, x < k) : (insO r k l).Pairwise (Bef r) := by
  have hle := atI_le r k l l.length
  have hov := atI_over r k l l.length
  have hst := atI_stop r k l l.length
  unfold insO
  generalize atI r k l l.length = at0 at *
  have hA : ∀ x ∈ l.take at0, Bef r x k := by
    intro x hx
    obtain ⟨i, hi, rfl⟩ := List.getElem_of_mem hx
    have hi' : i < at0 ∧ i < l.length := by rw [List.length_take] at hi; omega
    rw [List.getElem_take]
    have hlast := hst (by omega)
    have e2 : l.getD (at0 - 1) 0 = l[at0 - 1]'(by omega) := by simp [List.getD_eq_getElem?_getD, List.getElem?_eq_getElem (show at0 - 1 < l.length by omega)]
    rw [e2] at hlast
    have hxk := hk l[i] (List.getElem_mem hi'.2)
    by_cases e : i = at0 - 1
    · subst e
      unfold Bef; omega
    · have := List.pairwise_iff_getElem.1 h i (at0 - 1) hi'.2 (by omega) (by omega)
      unfold Bef at this ⊢
      omega
  have hB : ∀ x ∈ l.drop at0, Bef r k x := by
    intro x hx
    obtain ⟨i, hi, rfl⟩ := List.getElem_of_mem hx
    rw [List.length_drop] at hi
    rw [List.getElem_drop]
    have := hov (at0 + i) (by omega) (by omega)
    have e2 : l.getD (at0 + i) 0 = l[at0 + i]'(by omega) := by simp [List.getD_eq_getElem?_getD, List.getElem?_eq_getElem (show at0 + i < l.length by omega)]
    rw [e2] at this
    exact .inl this
  refine List.pairwise_append.2 ⟨h.sublist (List.take_sublist _ _), List.pairwise_cons.2 ⟨hB, h.sublist (List.drop_sublist _ _)⟩, ?_⟩
  intro x hx y hy
  rcases List.mem_cons.1 hy with rfl | hy
  · exact hA x hx
  · exact (hA x hx).trans (hB y hy)
theorem ordL_perm (r : List Int) : ∀ n, (ordL r n).Perm (List.range n)
  | 0 => List.Perm.refl _
  | n + 1 => by
    rw [List.range_succ]
    exact (insO_perm r n _).trans (((ordL_perm r n).cons n).trans (List.perm_append_singleton n _).symm)
theorem ordL_pair (r : List Int) : ∀ n, (ordL r n).Pairwise (Bef r)
  | 0 => List.Pairwise.nil
  | n + 1 => insO_pair (ordL_pair r n) fun x hx => by simpa using (ordL_perm r n).mem_iff.1 hx
theorem ordL_uniq {r : List Int} {n : Nat} {l : List Nat} (hp : l.Perm (List.range n)) (hs : l.Pairwise (Bef r)) : l = ordL r n := by
  refine List.Perm.eq_of_pairwise (le := Bef r) (fun a b _ _ h1 h2 => (Bef.irrefl r a (h1.trans h2)).elim) hs (ordL_pair r n) (hp.trans (ordL_perm r n).symm)

end Go.Proofs.Ytphfdbmbdaninaa.Ab
