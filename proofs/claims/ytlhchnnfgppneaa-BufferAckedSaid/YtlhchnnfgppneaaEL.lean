/- Acknowledgements: what they contain; Count. -/
import Derived.Test.YtlhchnnfgppneaaEE
import Derived.Test.YtlhchnnfgppneaaEQ
import Derived.Test.YtlhchnnfgppneaaQC
namespace Go.Proofs.Ytlhchnnfgppneaa.Ab
open Go Go.RowKit Go.Proofs
set_option linter.unusedSimpArgs false
set_option linter.unusedVariables false
attribute [local irreducible] Awp wpO thenQ blockQ bodyQ ACalls stepA

/-- how many numbers a set contains -/
def cntS (s : List (Int × Int)) : Int := (s.map fun p => p.2 - p.1 + 1).sum
theorem cntS_app (a b : List (Int × Int)) : cntS (a ++ b) = cntS a + cntS b := by simp [cntS]
theorem ack_cnt (R : List Item) : ∀ i, i ≤ R.length → cntS (ackT R i) = i := by
  intro i
  induction i with
  | zero => intro _; rfl
  | succ i ih =>
    intro hi
    obtain ⟨r, hr⟩ := nth (l := R) (i := i) (by omega)
    have h := ih (by omega)
    rw [ackT_succ hr]
    rcases List.eq_nil_or_concat (ackT R i) with e | ⟨l0, q, e⟩
    · rw [e] at h ⊢
      simp only [cntS, List.map_nil, List.sum_nil] at h
      simp [ackStep, cntS]; omega
    · rw [List.concat_eq_append] at e
      rw [e, cntS_app] at h
      rw [e, ackStep_app]
      split
      · rename_i c
        rw [cntS_app]
        simp only [cntS, List.map_cons, List.map_nil, List.sum_cons, List.sum_nil] at h ⊢
        omega
      · rw [cntS_app, cntS_app]
        simp only [cntS, List.map_cons, List.map_nil, List.sum_cons, List.sum_nil] at h ⊢
        omega
theorem isInB_app (a b : List (Int × Int)) (x : Int) : isInB (a ++ b) x = (isInB a x || isInB b x) := by simp [isInB]
theorem ack_in {R : List Item} (hs : srtR R) (hok : ∀ r ∈ R, r.ok) : ∀ i, i ≤ R.length → ∀ j r, j < i → R[j]? = some r → isInB (ackT R i) r.id = true := by
  intro i
  induction i with
  | zero => intro _ j r hj; omega
  | succ i ih =>
    intro hi j x hj hx
    obtain ⟨r, hr⟩ := nth (l := R) (i := i) (by omega)
    have hg := (ackT_gap hs hok i).2
    rw [ackT_succ hr]
    have hnew : isInB [(r.id, r.id)] r.id = true := by simp [isInB, wthB]
    have hcase : j < i ∨ x = r := by
      rcases Nat.lt_succ_iff_lt_or_eq.1 hj with h | h
      · exact .inl h
      · subst h; rw [hr] at hx; cases hx; exact .inr rfl
    rcases List.eq_nil_or_concat (ackT R i) with e | ⟨l0, q, e⟩
    · rw [e]
      rcases hcase with h | rfl
      · have := ih (by omega) j x h hx
        rw [e] at this; simp [isInB] at this
      · exact hnew
    · rw [List.concat_eq_append] at e
      rw [e] at hg
      have hq := hg q (by simp)
      rw [e, ackStep_app]
      split
      · rename_i c
        rw [isInB_app]
        rcases hcase with h | rfl
        · have := ih (by omega) j x h hx
          rw [e, isInB_app, Bool.or_eq_true] at this
          rw [Bool.or_eq_true]
          rcases this with h1 | h1
          · exact .inl h1
          · right
            simp [isInB, wthB] at h1 ⊢
            omega
        · rw [Bool.or_eq_true]
          right
          simp [isInB, wthB]
          omega
      · rw [isInB_app, Bool.or_eq_true]
        rcases hcase with h | rfl
        · have := ih (by omega) j x h hx
          rw [e] at this
          exact .inl this
        · exact .inr hnew

theorem setB_of : ∀ (s : List (Int × Int)) (o : Option (Int × Int)), (∀ p ∈ s, vldB p = true) → s.Pairwise (fun a b => a.2 + 1 < b.1) → (∀ a, o = some a → ∀ p ∈ s, a.2 + 1 < p.1) → (∀ p ∈ s, gapB none p = true) → (∀ a p, a.2 + 1 < p.1 → (-1073741824 ≤ a.2 ∧ a.2 ≤ 1073741824) → gapB (some a) p = true) → (∀ a, o = some a → -1073741824 ≤ a.2 ∧ a.2 ≤ 1073741824) → setB o s = true
  | [], o, _, _, _, _, _, _ => rfl
  | p :: l, o, h1, h2, h3, h4, h5, h6 => by
    have h2' := List.pairwise_cons.1 h2
    have hv := h1 p (by simp)
    have hg : gapB o p = true := by
      cases o with
      | none => exact h4 p (by simp)
      | some a => exact h5 a p (h3 a rfl p (by simp)) (h6 a rfl)
    have hr := setB_of l (some p) (fun q hq => h1 q (by simp [hq])) h2'.2 (fun a e q hq => by cases e; exact h2'.1 q hq) (fun q hq => h4 q (by simp [hq])) h5 (fun a e => by cases e; exact vldB_in hv)
    show (vldB p && gapB o p && setB (some p) l) = true
    rw [hv, hg, hr]; rfl

end Go.Proofs.Ytlhchnnfgppneaa.Ab
