/- Acknowledgements: gaps. -/
import Derived.Test.YtlhchnnfgppneaaEE
namespace Go.Proofs.Ytlhchnnfgppneaa.Ab
open Go Go.RowKit Go.Proofs
set_option linter.unusedSimpArgs false
set_option linter.unusedVariables false
attribute [local irreducible] Awp wpO thenQ blockQ bodyQ ACalls stepA

theorem ackT_gap {R : List Item} (hs : srtR R) (hok : ∀ r ∈ R, r.ok) : ∀ i, (ackT R i).Pairwise (fun a b => a.2 + 1 < b.1) ∧ ∀ p ∈ ackT R i, 0 ≤ p.1 ∧ p.1 ≤ p.2 ∧ ∃ j r, j < i ∧ R[j]? = some r ∧ r.id = p.2 := by
  intro i
  induction i with
  | zero => simp [ackT]
  | succ i ih =>
    obtain ⟨ih1, ih2⟩ := ih
    cases h : R[i]? with
    | some r =>
      have hr := hok r (List.mem_of_getElem? h)
      simp only [Item.ok] at hr
      have hlt : ∀ p ∈ ackT R i, p.2 < r.id := fun p hp => by
        obtain ⟨_, _, j, x, hj, hx, e⟩ := ih2 p hp
        have g1 := List.getElem?_eq_some_iff.1 hx
        have g2 := List.getElem?_eq_some_iff.1 h
        have := List.pairwise_iff_getElem.1 hs j i g1.1 g2.1 hj
        rw [g1.2, g2.2] at this
        omega
      have hnew : ∃ j x, j < i + 1 ∧ R[j]? = some x ∧ x.id = r.id := ⟨i, r, Nat.lt_succ_self i, h, rfl⟩
      have hup : ∀ p ∈ ackT R i, 0 ≤ p.1 ∧ p.1 ≤ p.2 ∧ ∃ j r, j < i + 1 ∧ R[j]? = some r ∧ r.id = p.2 := fun p hp => by
        obtain ⟨a, b, j, x, hj, hx, e⟩ := ih2 p hp
        exact ⟨a, b, j, x, by omega, hx, e⟩
      rw [ackT_succ h]
      rcases List.eq_nil_or_concat (ackT R i) with e | ⟨l0, q, e⟩
      · rw [e]
        refine ⟨by simp [ackStep], fun p hp => ?_⟩
        simp [ackStep] at hp
        subst hp
        exact ⟨by omega, Int.le_refl _, hnew⟩
      · rw [List.concat_eq_append] at e
        rw [e] at ih1 hlt hup ⊢
        obtain ⟨p1, p2, p3⟩ := List.pairwise_append.1 ih1
        have hq := hlt q (by simp)
        have hq2 := hup q (by simp)
        rw [ackStep_app]
        split
        · refine ⟨List.pairwise_append.2 ⟨p1, by simp, fun a ha b hb => ?_⟩, fun p hp => ?_⟩
          · simp at hb; subst hb
            exact p3 a ha q (by simp)
          · rcases List.mem_append.1 hp with hp | hp
            · exact hup p (by simp [hp])
            · simp at hp; subst hp
              exact ⟨hq2.1, by show q.1 ≤ r.id; omega, hnew⟩
        · rename_i hne
          refine ⟨List.pairwise_append.2 ⟨ih1, by simp, fun a ha b hb => ?_⟩, fun p hp => ?_⟩
          · simp at hb; subst hb
            show a.2 + 1 < r.id
            rcases List.mem_append.1 ha with ha | ha
            · have := p3 a ha q (by simp)
              omega
            · simp at ha; subst ha; omega
          · rcases List.mem_append.1 hp with hp | hp
            · exact hup p hp
            · simp at hp; subst hp
              exact ⟨by show 0 ≤ r.id; omega, Int.le_refl _, hnew⟩
    | none =>
      have hle : R.length ≤ i := List.getElem?_eq_none_iff.1 h
      have e : ackT R (i + 1) = ackT R i := by
        unfold ackT
        rw [List.take_of_length_le (by simp [idsR]; omega), List.take_of_length_le (by simp [idsR]; omega)]
      rw [e]
      exact ⟨ih1, fun p hp => by obtain ⟨a, b, j, x, hj, hx, e⟩ := ih2 p hp; exact ⟨a, b, j, x, by omega, hx, e⟩⟩

end Go.Proofs.Ytlhchnnfgppneaa.Ab
