/- Archive: the law True, plain. -/
import Derived.Test.YtdmgljlabigljaaZA
import Derived.Test.YtdmgljlabigljaaYE
namespace Go.Proofs.Ytdmgljlabigljaa.Ab
open Go Go.RowKit Go.Proofs
set_option linter.unusedSimpArgs false
set_option linter.unusedVariables false
attribute [local irreducible] Awp wpO thenQ blockQ bodyQ ACalls stepA

theorem mnLo_eq {n : Int} (hn : 0 < n) (s : Int) : mnLo n s = s / n := by
  unfold mnLo
  have h1 := Int.mul_tdiv_add_tmod s n
  have h2 := Int.tmod_lt_of_pos s hn
  have h3 : -n < s.tmod n := by
    have := Int.lt_tmod_of_pos s hn
    omega
  symm
  rw [Int.ediv_eq_iff_of_pos hn]
  split
  · next h => constructor <;> (rw [Int.sub_mul, Int.mul_comm (s.tdiv n) n]; omega)
  · next h => constructor <;> (rw [Int.sub_zero, Int.mul_comm (s.tdiv n) n]; omega)
theorem mnHi_eq {n : Int} (hn : 0 < n) (s : Int) : mnHi n s = -((-s) / n) := by
  rw [← mnLo_eq hn]
  unfold mnHi mnLo
  rw [Int.neg_tdiv, Int.neg_tmod]
  split <;> split <;> omega
theorem mnLo_mono {n s t : Int} (hn : 0 < n) (h : s ≤ t) : mnLo n s ≤ mnLo n t := by
  rw [mnLo_eq hn, mnLo_eq hn]; exact Int.ediv_le_ediv hn h
theorem mnHi_mono {n s t : Int} (hn : 0 < n) (h : s ≤ t) : mnHi n s ≤ mnHi n t := by
  rw [mnHi_eq hn, mnHi_eq hn]
  have := Int.ediv_le_ediv hn (show -t ≤ -s by omega)
  omega
theorem mnLo_le_hi {n s : Int} : mnLo n s ≤ mnHi n s := by
  unfold mnLo mnHi; split <;> split <;> omega
theorem sum_mono {f g : Ent → Int} : ∀ {F : List Ent}, (∀ e ∈ F, f e ≤ g e) → ∀ {s t : Int}, s ≤ t → F.foldl (fun s e => s + f e) s ≤ F.foldl (fun s e => s + g e) t
  | [], _, s, t, h => h
  | e :: F, h, s, t, hst => by
    rw [List.foldl_cons, List.foldl_cons]
    have := h e List.mem_cons_self
    exact sum_mono (fun x hx => h x (List.mem_cons_of_mem _ hx)) (by omega)
theorem sumOf_mono {f g : Ent → Int} {F : List Ent} (h : ∀ e ∈ F, f e ≤ g e) : sumOf f F ≤ sumOf g F := sum_mono h (Int.le_refl _)
theorem timesB_iff {a b c d : Int} : timesB [a, b, c, d] = true ↔ (0 ≤ a ∧ a ≤ 1073741824) ∧ timesB [b, c, d] = true := by
  unfold timesB
  rw [List.any_cons, Bool.not_or, Bool.and_eq_true]
  refine and_congr ?_ Iff.rfl
  unfold tOut
  rw [Bool.not_eq_true', decide_eq_false_iff_not]
  omega

def Qy.later (q : Qy) (n : Int) : Qy := { q with now := min 1073741824 (q.now + n) }

theorem true_plain {S : List Ser} {L : List Ent} (hg : goodS [] S = true) (hL : ∀ e ∈ L, accB S e = true) {q : Qy} {n limit : Int} (hn : 0 ≤ n) (h0 : (meanF S L q).1 = 0) :
    qOK S q ∧ qOK S (q.later n) ∧ (meanF S L (q.later n)).1 = 0 ∧ (meanF S L q).2.1 ≤ (meanF S L (q.later n)).2.1 ∧ (meanF S L (q.later n)).2.2 ≤ (meanF S L q).2.2 ∧ hidN L (q.later n) ≤ hidN L q ∧
      (belF S L q limit).2 = 0 ∧ (belF S L (q.later n) limit).2 = 0 ∧ ((belF S L q limit).1 = 1 ∨ (belF S L (q.later n) limit).1 = (belF S L q limit).1) := by
  by_cases hq : qOK S q
  case neg => unfold meanF at h0; rw [if_neg hq] at h0; cases h0
  obtain ⟨s, hs⟩ := nth (l := S) (i := q.series.toNat) (by have := hq.2.2.1; omega)
  have hqt := timesB_iff.1 hq.2.1
  have hq2 : qOK S (q.later n) := ⟨hq.1, timesB_iff.2 ⟨by show 0 ≤ min _ _ ∧ min _ _ ≤ _; omega, hqt.2⟩, hq.2.2.1, hq.2.2.2⟩
  have hF2 : fndL L (q.later n) = fndL L q := rfl
  have hF : fndL L q ≠ [] := by
    intro h
    unfold meanF at h0
    rw [if_pos hq, hs] at h0
    simp only [h, if_true] at h0
    cases h0
  have hs2 : S[(q.later n).series.toNat]? = some s := hs
  have e1 : meanF S L q = (0, mnLo (fndL L q).length (sumOf (vLo q s.lo) (fndL L q)), mnHi (fndL L q).length (sumOf (vHi q s.hi) (fndL L q))) := by unfold meanF; rw [if_pos hq, hs]; simp only [hF, if_false]
  have e2 : meanF S L (q.later n) = (0, mnLo (fndL L q).length (sumOf (vLo (q.later n) s.lo) (fndL L q)), mnHi (fndL L q).length (sumOf (vHi (q.later n) s.hi) (fndL L q))) := by unfold meanF; rw [if_pos hq2, hs2, hF2]; simp only [hF, if_false]
  have hsp := goodS_mem hg (List.mem_of_getElem? hs)
  have hss : s.lo ≤ s.hi := by unfold spanB at hsp; rw [decide_eq_true_eq] at hsp; exact hsp.1
  have hE : ∀ e ∈ fndL L q, s.lo ≤ e.lo ∧ e.hi ≤ s.hi ∧ e.lo ≤ e.hi := by
    intro e he
    obtain ⟨b, hb, h1, h2, h3⟩ := accB_span (hL e (fndL_mem he))
    have hin := (List.mem_filter.1 he).2
    unfold inQ at hin
    rw [decide_eq_true_eq] at hin
    rw [hin.1, hs] at hb
    obtain rfl := Option.some.inj hb
    unfold spanB at h1
    rw [decide_eq_true_eq] at h1
    exact ⟨h2, h3, h1.1⟩
  have hH : ∀ e, hidB (q.later n) e = true → hidB q e = true := by
    intro e h
    unfold hidB at h ⊢
    rw [decide_eq_true_eq] at h ⊢
    refine ⟨h.1, ?_⟩
    have h2 : e.free > min 1073741824 (q.now + n) := h.2
    omega
  have hnp : (0 : Int) < (fndL L q).length := by
    cases h : fndL L q with
    | nil => exact absurd h hF
    | cons => simp
  have mLo : mnLo (fndL L q).length (sumOf (vLo q s.lo) (fndL L q)) ≤ mnLo (fndL L q).length (sumOf (vLo (q.later n) s.lo) (fndL L q)) := mnLo_mono hnp (sumOf_mono fun e he => by
    have := hE e he
    unfold vLo
    by_cases h1 : hidB (q.later n) e = true
    · rw [if_pos h1, if_pos (hH e h1)]; exact Int.le_refl _
    · rw [if_neg h1]; split <;> omega)
  have mHi : mnHi (fndL L q).length (sumOf (vHi (q.later n) s.hi) (fndL L q)) ≤ mnHi (fndL L q).length (sumOf (vHi q s.hi) (fndL L q)) := mnHi_mono hnp (sumOf_mono fun e he => by
    have := hE e he
    unfold vHi
    by_cases h1 : hidB (q.later n) e = true
    · rw [if_pos h1, if_pos (hH e h1)]; exact Int.le_refl _
    · rw [if_neg h1]; split <;> omega)
  have mLH : mnLo (fndL L q).length (sumOf (vLo (q.later n) s.lo) (fndL L q)) ≤ mnHi (fndL L q).length (sumOf (vHi (q.later n) s.hi) (fndL L q)) := by
    refine Int.le_trans mnLo_le_hi (mnHi_mono hnp (sumOf_mono fun e he => ?_))
    have := hE e he
    unfold vLo vHi
    split <;> omega
  have hN : hidN L (q.later n) ≤ hidN L q := by
    unfold hidN
    rw [hF2]
    have h1 : ((fndL L q).filter (seeB q)).length ≤ ((fndL L q).filter (seeB (q.later n))).length := by
      rw [← List.countP_eq_length_filter, ← List.countP_eq_length_filter]
      refine List.countP_mono_left fun e he h => ?_
      unfold seeB at h ⊢
      cases hh : hidB (q.later n) e with
      | true => rw [hH e hh] at h; cases h
      | false => rfl
    omega
  refine ⟨hq, hq2, by rw [e2], by rw [e1, e2]; exact mLo, by rw [e1, e2]; exact mHi, hN, ?_⟩
  unfold belF
  rw [e1, e2]
  generalize mnLo (fndL L q).length (sumOf (vLo q s.lo) (fndL L q)) = a at *
  generalize mnHi (fndL L q).length (sumOf (vHi q s.hi) (fndL L q)) = b at *
  generalize mnLo (fndL L q).length (sumOf (vLo (q.later n) s.lo) (fndL L q)) = c at *
  generalize mnHi (fndL L q).length (sumOf (vHi (q.later n) s.hi) (fndL L q)) = d at *
  simp only [ne_eq, not_true_eq_false, if_false]
  by_cases h1 : b < limit
  · rw [if_pos h1, if_pos (show d < limit by omega)]; exact ⟨rfl, rfl, .inr rfl⟩
  · rw [if_neg h1]
    by_cases h2 : a ≥ limit
    · rw [if_pos h2, if_neg (show ¬ d < limit by omega), if_pos (show c ≥ limit by omega)]; exact ⟨rfl, rfl, .inr rfl⟩
    · rw [if_neg h2]
      refine ⟨rfl, ?_, .inl rfl⟩
      split
      · rfl
      · split <;> rfl

end Go.Proofs.Ytdmgljlabigljaa.Ab
