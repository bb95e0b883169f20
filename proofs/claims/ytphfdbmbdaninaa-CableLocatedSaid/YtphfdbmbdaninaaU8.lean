/- Cables: a row of one's own turned round. -/
import Derived.Test.YtphfdbmbdaninaaW8
namespace Go.Proofs.Ytphfdbmbdaninaa.Ab
open Go Go.RowKit Go.Proofs
set_option linter.unusedSimpArgs false
set_option linter.unusedVariables false
attribute [local irreducible] Awp wpO thenQ blockQ bodyQ ACalls stepA

/-- i numbers at either end have been exchanged -/
def rvP (v : List Nat) (i : Nat) : List Nat := (List.range v.length).map fun j => if j < i ∨ v.length ≤ j + i then v.getD (v.length - 1 - j) 0 else v.getD j 0
theorem rvP_len (v : List Nat) (i : Nat) : (rvP v i).length = v.length := by simp [rvP]
theorem rvP_at {v : List Nat} {i j : Nat} (hj : j < v.length) : (rvP v i)[j]? = some (if j < i ∨ v.length ≤ j + i then v.getD (v.length - 1 - j) 0 else v.getD j 0) := by simp [rvP, hj]
theorem getD_at {v : List Nat} {j : Nat} (hj : j < v.length) : v[j]? = some (v.getD j 0) := by simp [hj]
theorem rvP_zero (v : List Nat) : rvP v 0 = v := by
  refine List.ext_getElem? fun j => ?_
  by_cases hj : j < v.length
  · rw [rvP_at hj, if_neg (by omega), getD_at hj]
  · rw [List.getElem?_eq_none (by rw [rvP_len]; omega), List.getElem?_eq_none (by omega)]
theorem rvP_end {v : List Nat} {i : Nat} (h : v.length ≤ 2 * i + 1) : rvP v i = v.reverse := by
  refine List.ext_getElem? fun j => ?_
  by_cases hj : j < v.length
  · rw [rvP_at hj, List.getElem?_reverse hj, getD_at (by omega)]
    by_cases hc : j < i ∨ v.length ≤ j + i
    · rw [if_pos hc]
    · rw [if_neg hc, show v.length - 1 - j = j by omega]
  · rw [List.getElem?_eq_none (by rw [rvP_len]; omega), List.getElem?_eq_none (by simp; omega)]
theorem rvP_succ {v : List Nat} {i : Nat} (h : 2 * i + 1 < v.length) : ((rvP v i).set i (v.getD (v.length - 1 - i) 0)).set (v.length - 1 - i) (v.getD i 0) = rvP v (i + 1) := by
  refine List.ext_getElem? fun j => ?_
  by_cases hj : j < v.length
  · rw [rvP_at hj]
    by_cases h1 : j = v.length - 1 - i
    · subst h1
      rw [List.getElem?_set_self (by simp [rvP_len]; omega), if_pos (by omega), show v.length - 1 - (v.length - 1 - i) = i by omega]
    · rw [List.getElem?_set_ne (by omega)]
      by_cases h2 : j = i
      · subst h2
        rw [List.getElem?_set_self (by simp [rvP_len]; omega), if_pos (by omega)]
      · rw [List.getElem?_set_ne (by omega), rvP_at hj]
        by_cases hc : j < i ∨ v.length ≤ j + i
        · rw [if_pos hc, if_pos (by omega)]
        · rw [if_neg hc, if_neg (by omega)]
  · rw [List.getElem?_eq_none (by simp [rvP_len]; omega), List.getElem?_eq_none (by rw [rvP_len]; omega)]
theorem nats_set (v : List Nat) (i x : Nat) : (nats v).set i [iv (x : Int)] = nats (v.set i x) := by simp [nats, List.map_set]

set_option maxRecDepth 8000 in
theorem reverse_ok (H : Hp) {b : Nat} {v : List Nat} (hb : H[b]? = some (.cells (nats v) 3)) (h0 : 0 < v.length) (hm : v.length ≤ maxLen) :
    CallsTo Try.prog 105 [.msl b 0 v.length] H (.tup []) (H.set b (.cells (nats v.reverse) 3)) := by
  have hw1 : IntKind.i64.wrap ((v.length : Int) - 1) = (v.length : Int) - 1 := w64 (by omega) (by simp only [maxLen] at hm; omega)
  refine ACalls.of_body Try.func105 rfl (by kernel_rfl) (by rw [Try.ntmps105]; simp) ?_; rw [Try.ntmps105]
  repeat' (first | refine spD (fun _ => ?_) (fun _ => ?_) | refine spF (fun _ => ?_) (fun _ => ?_) | (apply gT; (exact rfl)) | (apply off; (exact rfl); (exact rfl)) | (apply condT; (exact rfl)) | (apply condF; (exact rfl)) | ((first | (apply stp0; (exact rfl); (exact rfl)) | (apply stpN0; (exact rfl)) | apply gT | apply condT | ((first | apply bodyQ_d0 | apply bodyQ_d1 | apply bodyQ_d2 | apply bodyQ_d3 | apply bodyQ_d4); (exact .inr rfl); (rw [Try.results105]))); (first | (focus (simp only [go_sem, ↓reduceIte, Nat.reduceEqDiff, Nat.reduceBEq, Nat.reduceAdd, Nat.reduceLeDiff, Nat.reduceMul, Nat.reduceLT, Int.reduceToNat, reduceCtorEq, Int.reduceBEq, Int.reduceBNe, Int.reduceLT, Int.reduceLE, Int.reduceGT, Int.reduceGE, hw1] <;> rfl)) | exact rfl); (first | (fail_if_success (show okD _ _ _ _ _ _ _ _ _)) | (first | exact okT | exact okN | exact okE rfl)); (first | (fail_if_success (show Bel _ _)) | (focus first | exact .val _ | (simp [oneOf, Bel_iff_tup, Bel_iff_agg, Bel_iff_rsl, Bel_iff_fn, Bel_iff_rptr, Bel_val]; done)))) | refine thenQ_n ?_ | refine thenQ_r ?_ | refine thenQ_e ?_ | refine blockQ_n ?_ | refine blockQ_r ?_ | refine blockQ_e ?_ | (apply blockQ_o; (exact rfl)) | refine Awp.seq ?_ | refine Awp.skip ?_ | refine Awp.block ?_ | refine reg (fun s => false) ?_ | (apply drwE mixed (fun s => false); (kernel_rfl)) | refine fin ?_ | refine Awp.ret ?_ | refine Awp.exit ?_ | ((first | (apply off; (exact rfl)) | apply condF); (first | (focus (simp only [go_sem, ↓reduceIte, Nat.reduceEqDiff, Nat.reduceBEq, Nat.reduceAdd, Nat.reduceLeDiff, Nat.reduceMul, Nat.reduceLT, Int.reduceToNat, reduceCtorEq, Int.reduceBEq, Int.reduceBNe, Int.reduceLT, Int.reduceLE, Int.reduceGT, Int.reduceGE, hw1] <;> rfl)) | exact rfl)))
  have hset0 : H.set b (.cells (nats (rvP v 0)) 3) = H := by
    rw [rvP_zero]
    exact List.ext_getElem? fun j => by
      by_cases hj : b = j
      · subst hj; rw [List.getElem?_set_self (List.getElem?_eq_some_iff.1 hb).1, hb]
      · rw [List.getElem?_set_ne hj]
  refine Awp.loop (ι := Nat) (fun i T' K => 2 * i ≤ v.length ∧ T' 2 = iv i ∧ T' 3 = iv ((v.length : Int) - 1 - i) ∧ T' 0 = .msl b 0 v.length ∧ K = H.set b (.cells (nats (rvP v i)) 3)) (fun i => v.length - i) 0 ?_ ?_
  · refine ⟨by omega, ?_, ?_, ?_, hset0.symm⟩
    · (first | (focus (simp only [go_sem, ↓reduceIte, Nat.reduceEqDiff, Nat.reduceBEq, Nat.reduceAdd, Nat.reduceLeDiff, Nat.reduceMul, Nat.reduceLT, Int.reduceToNat, reduceCtorEq, Int.reduceBEq, Int.reduceBNe, Int.reduceLT, Int.reduceLE, Int.reduceGT, Int.reduceGE]; done)) | (focus (simp only [go_sem, ↓reduceIte, Nat.reduceEqDiff, Nat.reduceBEq, Nat.reduceAdd, Nat.reduceLeDiff, Nat.reduceMul, Nat.reduceLT, Int.reduceToNat, reduceCtorEq, Int.reduceBEq, Int.reduceBNe, Int.reduceLT, Int.reduceLE, Int.reduceGT, Int.reduceGE]; rfl)) | rfl)
    · rw [show (v.length : Int) - 1 - (0 : Nat) = (v.length : Int) - 1 by omega]; (first | (focus (simp only [go_sem, ↓reduceIte, Nat.reduceEqDiff, Nat.reduceBEq, Nat.reduceAdd, Nat.reduceLeDiff, Nat.reduceMul, Nat.reduceLT, Int.reduceToNat, reduceCtorEq, Int.reduceBEq, Int.reduceBNe, Int.reduceLT, Int.reduceLE, Int.reduceGT, Int.reduceGE]; done)) | (focus (simp only [go_sem, ↓reduceIte, Nat.reduceEqDiff, Nat.reduceBEq, Nat.reduceAdd, Nat.reduceLeDiff, Nat.reduceMul, Nat.reduceLT, Int.reduceToNat, reduceCtorEq, Int.reduceBEq, Int.reduceBNe, Int.reduceLT, Int.reduceLE, Int.reduceGT, Int.reduceGE]; rfl)) | rfl)
    · (first | (focus (simp only [go_sem, ↓reduceIte, Nat.reduceEqDiff, Nat.reduceBEq, Nat.reduceAdd, Nat.reduceLeDiff, Nat.reduceMul, Nat.reduceLT, Int.reduceToNat, reduceCtorEq, Int.reduceBEq, Int.reduceBNe, Int.reduceLT, Int.reduceLE, Int.reduceGT, Int.reduceGE]; done)) | (focus (simp only [go_sem, ↓reduceIte, Nat.reduceEqDiff, Nat.reduceBEq, Nat.reduceAdd, Nat.reduceLeDiff, Nat.reduceMul, Nat.reduceLT, Int.reduceToNat, reduceCtorEq, Int.reduceBEq, Int.reduceBNe, Int.reduceLT, Int.reduceLE, Int.reduceGT, Int.reduceGE]; rfl)) | rfl)
  rintro i T K ⟨hi, h2, h3, h0', rfl⟩
  have q := heldS hb
  by_cases hlt : 2 * i + 1 < v.length
  · obtain ⟨j, hj⟩ : ∃ j : Nat, (v.length : Int) - 1 - i = (j : Int) := ⟨v.length - 1 - i, by omega⟩
    have hjn : j = v.length - 1 - i := by omega
    rw [hj] at h3
    have hij : (i : Int) < (j : Int) := by omega
    have hjl : j < v.length := by omega
    have hil : i < v.length := by omega
    have hnl := nats_len (rvP v i)
    rw [rvP_len] at hnl
    have a1 : (nats (rvP v i))[j]? = some [iv ((v.getD j 0 : Nat) : Int)] := nats_at (by rw [rvP_at hjl, if_neg (by omega)])
    have a2 : (nats (rvP v i))[i]? = some [iv ((v.getD i 0 : Nat) : Int)] := nats_at (by rw [rvP_at hil, if_neg (by omega)])
    have hset : ((nats (rvP v i)).set i [iv ((v.getD j 0 : Nat) : Int)]).set j [iv ((v.getD i 0 : Nat) : Int)] = nats (rvP v (i + 1)) := by
      rw [nats_set, nats_set, hjn, rvP_succ hlt]
    have hrl : ∀ x : List AV, ((nats (rvP v i)).set i x).length = v.length := fun x => by rw [List.length_set, hnl]
    have hw := wsucc hil hm
    have hw2 : IntKind.i64.wrap ((j : Int) - 1) = (j : Int) - 1 := w64 (by omega) (by simp only [maxLen] at hm; omega)
    have a3 : ∀ x : List AV, ((nats (rvP v i)).set i x)[j]? = some [iv ((v.getD j 0 : Nat) : Int)] := fun x => by rw [List.getElem?_set_ne (by omega), a1]
    revert a1 a2 a3 hset hrl hnl
    generalize hr : nats (rvP v i) = r at q ⊢
    intro hnl a1 a2 hset hrl a3
    repeat' (first | refine spD (fun _ => ?_) (fun _ => ?_) | refine spF (fun _ => ?_) (fun _ => ?_) | (apply gT; (exact rfl)) | (apply off; (exact rfl); (exact rfl)) | (apply condT; (exact rfl)) | (apply condF; (exact rfl)) | ((first | (apply stp0; (exact rfl); (exact rfl)) | (apply stpN0; (exact rfl)) | apply gT | apply condT | ((first | apply bodyQ_d0 | apply bodyQ_d1 | apply bodyQ_d2 | apply bodyQ_d3 | apply bodyQ_d4); (exact .inr rfl); (rw [Try.results105]))); (first | (focus (simp only [go_sem, ↓reduceIte, Nat.reduceEqDiff, Nat.reduceBEq, Nat.reduceAdd, Nat.reduceLeDiff, Nat.reduceMul, Nat.reduceLT, Int.reduceToNat, reduceCtorEq, Int.reduceBEq, Int.reduceBNe, Int.reduceLT, Int.reduceLE, Int.reduceGT, Int.reduceGE, h2, h3, h0', hij, a1, a2, a3, hnl, hrl, hil, hjl, q, hw, hw2, hset, Nat.zero_add] <;> rfl)) | exact rfl); (first | (fail_if_success (show okD _ _ _ _ _ _ _ _ _)) | (first | exact okT | exact okN | exact okE rfl)); (first | (fail_if_success (show Bel _ _)) | (focus first | exact .val _ | (simp [oneOf, Bel_iff_tup, Bel_iff_agg, Bel_iff_rsl, Bel_iff_fn, Bel_iff_rptr, Bel_val]; done)))) | refine thenQ_n ?_ | refine thenQ_r ?_ | refine thenQ_e ?_ | refine blockQ_n ?_ | refine blockQ_r ?_ | refine blockQ_e ?_ | (apply blockQ_o; (exact rfl)) | refine Awp.seq ?_ | refine Awp.skip ?_ | refine Awp.block ?_ | refine reg (fun s => false) ?_ | (apply drwE mixed (fun s => false); (kernel_rfl)) | refine fin ?_ | refine Awp.ret ?_ | refine Awp.exit ?_ | ((first | (apply off; (exact rfl)) | apply condF); (first | (focus (simp only [go_sem, ↓reduceIte, Nat.reduceEqDiff, Nat.reduceBEq, Nat.reduceAdd, Nat.reduceLeDiff, Nat.reduceMul, Nat.reduceLT, Int.reduceToNat, reduceCtorEq, Int.reduceBEq, Int.reduceBNe, Int.reduceLT, Int.reduceLE, Int.reduceGT, Int.reduceGE, h2, h3, h0', hij, a1, a2, a3, hnl, hrl, hil, hjl, q, hw, hw2, hset, Nat.zero_add] <;> rfl)) | exact rfl)))
    all_goals first | contradiction | (exfalso; omega) | skip
    refine ⟨i + 1, ⟨by omega, ?_, ?_, ?_, ?_⟩, by omega⟩
    · (first | (focus (simp only [go_sem, ↓reduceIte, Nat.reduceEqDiff, Nat.reduceBEq, Nat.reduceAdd, Nat.reduceLeDiff, Nat.reduceMul, Nat.reduceLT, Int.reduceToNat, reduceCtorEq, Int.reduceBEq, Int.reduceBNe, Int.reduceLT, Int.reduceLE, Int.reduceGT, Int.reduceGE, hw]; done)) | (focus (simp only [go_sem, ↓reduceIte, Nat.reduceEqDiff, Nat.reduceBEq, Nat.reduceAdd, Nat.reduceLeDiff, Nat.reduceMul, Nat.reduceLT, Int.reduceToNat, reduceCtorEq, Int.reduceBEq, Int.reduceBNe, Int.reduceLT, Int.reduceLE, Int.reduceGT, Int.reduceGE, hw]; rfl)) | rfl)
    · rw [show (v.length : Int) - 1 - ((i + 1 : Nat) : Int) = (j : Int) - 1 by omega]; (first | (focus (simp only [go_sem, ↓reduceIte, Nat.reduceEqDiff, Nat.reduceBEq, Nat.reduceAdd, Nat.reduceLeDiff, Nat.reduceMul, Nat.reduceLT, Int.reduceToNat, reduceCtorEq, Int.reduceBEq, Int.reduceBNe, Int.reduceLT, Int.reduceLE, Int.reduceGT, Int.reduceGE, hw2]; done)) | (focus (simp only [go_sem, ↓reduceIte, Nat.reduceEqDiff, Nat.reduceBEq, Nat.reduceAdd, Nat.reduceLeDiff, Nat.reduceMul, Nat.reduceLT, Int.reduceToNat, reduceCtorEq, Int.reduceBEq, Int.reduceBNe, Int.reduceLT, Int.reduceLE, Int.reduceGT, Int.reduceGE, hw2]; rfl)) | rfl)
    · (first | (focus (simp only [go_sem, ↓reduceIte, Nat.reduceEqDiff, Nat.reduceBEq, Nat.reduceAdd, Nat.reduceLeDiff, Nat.reduceMul, Nat.reduceLT, Int.reduceToNat, reduceCtorEq, Int.reduceBEq, Int.reduceBNe, Int.reduceLT, Int.reduceLE, Int.reduceGT, Int.reduceGE, h0']; done)) | (focus (simp only [go_sem, ↓reduceIte, Nat.reduceEqDiff, Nat.reduceBEq, Nat.reduceAdd, Nat.reduceLeDiff, Nat.reduceMul, Nat.reduceLT, Int.reduceToNat, reduceCtorEq, Int.reduceBEq, Int.reduceBNe, Int.reduceLT, Int.reduceLE, Int.reduceGT, Int.reduceGE, h0']; rfl)) | rfl)
    · simp only [hset]
  · have hnij : ¬ (i : Int) < (v.length : Int) - 1 - i := by omega
    rw [rvP_end (by omega)]
    repeat' (first | refine spD (fun _ => ?_) (fun _ => ?_) | refine spF (fun _ => ?_) (fun _ => ?_) | (apply gT; (exact rfl)) | (apply off; (exact rfl); (exact rfl)) | (apply condT; (exact rfl)) | (apply condF; (exact rfl)) | ((first | (apply stp0; (exact rfl); (exact rfl)) | (apply stpN0; (exact rfl)) | apply gT | apply condT); (first | (focus (simp only [go_sem, ↓reduceIte, Nat.reduceEqDiff, Nat.reduceBEq, Nat.reduceAdd, Nat.reduceLeDiff, Nat.reduceMul, Nat.reduceLT, Int.reduceToNat, reduceCtorEq, Int.reduceBEq, Int.reduceBNe, Int.reduceLT, Int.reduceLE, Int.reduceGT, Int.reduceGE, h2, h3, h0', hnij] <;> rfl)) | exact rfl); (first | (fail_if_success (show okD _ _ _ _ _ _ _ _ _)) | (first | exact okT | exact okN | exact okE rfl))) | refine thenQ_n ?_ | refine thenQ_r ?_ | refine thenQ_e ?_ | refine blockQ_n ?_ | refine blockQ_r ?_ | refine blockQ_e ?_ | (apply blockQ_o; (exact rfl)) | refine Awp.seq ?_ | refine Awp.skip ?_ | refine Awp.block ?_ | refine reg (fun s => false) ?_ | (apply drwE mixed (fun s => false); (kernel_rfl)) | refine fin ?_ | refine Awp.ret ?_ | refine Awp.exit ?_ | ((first | (apply off; (exact rfl)) | apply condF); (first | (focus (simp only [go_sem, ↓reduceIte, Nat.reduceEqDiff, Nat.reduceBEq, Nat.reduceAdd, Nat.reduceLeDiff, Nat.reduceMul, Nat.reduceLT, Int.reduceToNat, reduceCtorEq, Int.reduceBEq, Int.reduceBNe, Int.reduceLT, Int.reduceLE, Int.reduceGT, Int.reduceGE, h2, h3, h0', hnij] <;> rfl)) | exact rfl)))
    all_goals first | contradiction | (exfalso; omega) | skip
    exact bodyQ_eq (vs := []) (.inl rfl) (by rw [Try.results105]; rfl) ⟨rfl, rfl⟩

end Go.Proofs.Ytphfdbmbdaninaa.Ab
