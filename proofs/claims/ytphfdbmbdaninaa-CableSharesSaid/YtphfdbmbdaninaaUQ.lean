/- Cables: the law CableShares. -/
import Derived.Test.YtphfdbmbdaninaaUP
import Derived.Test.YtphfdbmbdaninaaWJ
import Derived.Test.YtphfdbmbdaninaaWO
namespace Go.Proofs.Ytphfdbmbdaninaa.Ab
open Go Go.RowKit Go.Proofs
set_option linter.unusedSimpArgs false
set_option linter.unusedVariables false
attribute [local irreducible] Awp wpO thenQ blockQ bodyQ ACalls stepA

theorem shrE_ok {c : Cb} (hL : ¬ c.long) {req r : List Int} (h : shrE c req r = 0) : c.good ∧ r.length = c.l.length ∧ req.length = c.l.length ∧ ∀ x ∈ req, 0 ≤ x ∧ x ≤ 65536 := by
  unfold shrE at h
  by_cases h0 : c.code = 0
  · rw [if_neg (fun n => n h0)] at h
    by_cases h1 : r.length = c.l.length
    · rw [if_neg (fun n => n h1)] at h
      unfold ampE at h
      by_cases e : req.length = c.l.length
      · rw [if_neg (fun n => n e)] at h
        refine ⟨good_of hL h0, h1, e, amB_in fun k => ?_⟩
        rw [if_pos k] at h; simp at h
      · rw [if_pos e] at h; simp at h
    · rw [if_pos h1] at h; simp at h
  · rw [if_pos h0] at h; exact absurd h h0
theorem shrV_len {c : Cb} (hL : ¬ c.long) (req r : List Int) : (shrV c req r).length ≤ maxLen := by
  unfold shrV
  by_cases h : shrE c req r = 0
  · rw [if_pos h]
    obtain ⟨hg, hr, hq, hin⟩ := shrE_ok hL h
    have := (Gd.all hg hin r c.l.length (Nat.le_refl _)).len
    rw [List.take_of_length_le (by rw [ordL_len1]; exact Nat.le_refl _)] at this
    have h20 := hg.h.2.1
    rw [this]; simp only [maxLen]; omega
  · rw [if_neg h]; simp

set_option maxRecDepth 8000 in
theorem CableShares_ok (c : Cb) (req r g : List Int) (ex ey ez : Bool) (hq : req.length ≤ maxLen) (hr : r.length ≤ maxLen) (hm : g.length ≤ maxLen) :
    CallsTo Try.prog 15 [.agg c.cs, .rsl (ints req) ex, .rsl (ints r) ey, .rsl (ints g) ez] [] (bv true) [] := by
  have hfi := fine_ok
  have hl := fun H => long_ok H c
  have hql := ints_len req
  have hrl := ints_len r
  have hgl := ints_len g
  by_cases hL : c.long
  · rw [decide_eq_true hL] at hl
    refine ACalls.of_body Try.func15 rfl (by kernel_rfl) (by rw [Try.ntmps15]; simp) ?_; rw [Try.ntmps15]
    repeat' ((fail_if_success (apply stopR (id := 3))); (fail_if_success (apply stopS (id := 3))); first | refine spD (fun _ => ?_) (fun _ => ?_) | refine spF (fun _ => ?_) (fun _ => ?_) | (apply gT; (exact rfl)) | (apply off; (exact rfl); (exact rfl)) | (apply condT; (exact rfl)) | (apply condF; (exact rfl)) | ((first | (apply stp0; (exact rfl); (exact rfl)) | (apply stpN0; (exact rfl)) | apply gT | apply condT | ((first | apply bodyQ_d0 | apply bodyQ_d1 | apply bodyQ_d2 | apply bodyQ_d3 | apply bodyQ_d4); (exact .inr rfl); (rw [Try.results15]))); (first | (focus (simp only [go_sem, ↓reduceIte, Nat.reduceEqDiff, Nat.reduceBEq, Nat.reduceAdd, Nat.reduceLeDiff, Nat.reduceMul, Nat.reduceLT, Int.reduceToNat, reduceCtorEq, Int.reduceBEq, Int.reduceBNe, Int.reduceLT, Int.reduceLE, Int.reduceGT, Int.reduceGE, Cb.cs, hql, hrl, hgl] <;> rfl)) | exact rfl); (first | (fail_if_success (show okD _ _ _ _ _ _ _ _ _)) | (first | exact okT | exact okN | exact okE rfl)); (first | (fail_if_success (show Bel _ _)) | (focus first | exact .val _ | (simp [oneOf, Bel_iff_tup, Bel_iff_agg, Bel_iff_rsl, Bel_iff_fn, Bel_iff_rptr, Bel_val]; done)))) | (apply calTo0; (exact rfl); (iterate 2 (simp only [go_sem, ↓reduceIte, Nat.reduceEqDiff, Nat.reduceBEq, Nat.reduceAdd, Nat.reduceLeDiff, Nat.reduceMul, Nat.reduceLT, Int.reduceToNat, reduceCtorEq, Int.reduceBEq, Int.reduceBNe, Int.reduceLT, Int.reduceLE, Int.reduceGT, Int.reduceGE, Cb.cs, hql, hrl, hgl]; rfl)); (first | exact hl _ | exact hfi _); (first | exact okT | exact okN | exact okE rfl)) | refine thenQ_n ?_ | refine thenQ_r ?_ | refine thenQ_e ?_ | refine blockQ_n ?_ | refine blockQ_r ?_ | refine blockQ_e ?_ | (apply blockQ_o; (exact rfl)) | refine Awp.seq ?_ | refine Awp.skip ?_ | refine Awp.block ?_ | refine reg (fun s => false) ?_ | (apply drwE mixed (fun s => false); (kernel_rfl)) | refine fin ?_ | refine Awp.ret ?_ | refine Awp.exit ?_ | ((first | (apply off; (exact rfl)) | apply condF); (first | (focus (simp only [go_sem, ↓reduceIte, Nat.reduceEqDiff, Nat.reduceBEq, Nat.reduceAdd, Nat.reduceLeDiff, Nat.reduceMul, Nat.reduceLT, Int.reduceToNat, reduceCtorEq, Int.reduceBEq, Int.reduceBNe, Int.reduceLT, Int.reduceLE, Int.reduceGT, Int.reduceGE, Cb.cs, hql, hrl, hgl] <;> rfl)) | exact rfl)))
    all_goals first | rfl | (exfalso; omega)
  · rw [decide_eq_false hL] at hl
    by_cases hb : req.length > 100 ∨ r.length > 100 ∨ g.length > 100
    · refine ACalls.of_body Try.func15 rfl (by kernel_rfl) (by rw [Try.ntmps15]; simp) ?_; rw [Try.ntmps15]
      repeat' ((fail_if_success (apply stopR (id := 3))); (fail_if_success (apply stopS (id := 3))); first | refine spD (fun _ => ?_) (fun _ => ?_) | refine spF (fun _ => ?_) (fun _ => ?_) | (apply gT; (exact rfl)) | (apply off; (exact rfl); (exact rfl)) | (apply condT; (exact rfl)) | (apply condF; (exact rfl)) | ((first | (apply stp0; (exact rfl); (exact rfl)) | (apply stpN0; (exact rfl)) | apply gT | apply condT | ((first | apply bodyQ_d0 | apply bodyQ_d1 | apply bodyQ_d2 | apply bodyQ_d3 | apply bodyQ_d4); (exact .inr rfl); (rw [Try.results15]))); (first | (focus (simp only [go_sem, ↓reduceIte, Nat.reduceEqDiff, Nat.reduceBEq, Nat.reduceAdd, Nat.reduceLeDiff, Nat.reduceMul, Nat.reduceLT, Int.reduceToNat, reduceCtorEq, Int.reduceBEq, Int.reduceBNe, Int.reduceLT, Int.reduceLE, Int.reduceGT, Int.reduceGE, Cb.cs, hql, hrl, hgl] <;> rfl)) | exact rfl); (first | (fail_if_success (show okD _ _ _ _ _ _ _ _ _)) | (first | exact okT | exact okN | exact okE rfl)); (first | (fail_if_success (show Bel _ _)) | (focus first | exact .val _ | (simp [oneOf, Bel_iff_tup, Bel_iff_agg, Bel_iff_rsl, Bel_iff_fn, Bel_iff_rptr, Bel_val]; done)))) | (apply calTo0; (exact rfl); (iterate 2 (simp only [go_sem, ↓reduceIte, Nat.reduceEqDiff, Nat.reduceBEq, Nat.reduceAdd, Nat.reduceLeDiff, Nat.reduceMul, Nat.reduceLT, Int.reduceToNat, reduceCtorEq, Int.reduceBEq, Int.reduceBNe, Int.reduceLT, Int.reduceLE, Int.reduceGT, Int.reduceGE, Cb.cs, hql, hrl, hgl]; rfl)); (first | exact hl _ | exact hfi _); (first | exact okT | exact okN | exact okE rfl)) | refine thenQ_n ?_ | refine thenQ_r ?_ | refine thenQ_e ?_ | refine blockQ_n ?_ | refine blockQ_r ?_ | refine blockQ_e ?_ | (apply blockQ_o; (exact rfl)) | refine Awp.seq ?_ | refine Awp.skip ?_ | refine Awp.block ?_ | refine reg (fun s => false) ?_ | (apply drwE mixed (fun s => false); (kernel_rfl)) | refine fin ?_ | refine Awp.ret ?_ | refine Awp.exit ?_ | ((first | (apply off; (exact rfl)) | apply condF); (first | (focus (simp only [go_sem, ↓reduceIte, Nat.reduceEqDiff, Nat.reduceBEq, Nat.reduceAdd, Nat.reduceLeDiff, Nat.reduceMul, Nat.reduceLT, Int.reduceToNat, reduceCtorEq, Int.reduceBEq, Int.reduceBNe, Int.reduceLT, Int.reduceLE, Int.reduceGT, Int.reduceGE, Cb.cs, hql, hrl, hgl] <;> rfl)) | exact rfl)))
      all_goals first | rfl | (exfalso; omega)
    · have k1 := fun H => Share_ok H c hL req r ex ey hq hr
      have k2 := fun H => rShare_ok H c hL req r ex ey hq hr
      have k3 := fun H => CheckShare_ok H c hL g ez hm
      have k4 := fun H => rCheckShare_ok H c hL g ez hm
      have l1 := shrV_len hL req r
      generalize shrV c req r = V at *
      generalize shrE c req r = E at *
      generalize chkE c g = C at *
      refine ACalls.of_body Try.func15 rfl (by kernel_rfl) (by rw [Try.ntmps15]; simp) ?_; rw [Try.ntmps15]
      repeat' (first | refine spD (fun _ => ?_) (fun _ => ?_) | refine spF (fun _ => ?_) (fun _ => ?_) | (apply gT; (exact rfl)) | (apply off; (exact rfl); (exact rfl)) | (apply condT; (exact rfl)) | (apply condF; (exact rfl)) | ((first | (apply stp0; (exact rfl); (exact rfl)) | (apply stpN0; (exact rfl)) | apply gT | apply condT | ((first | apply bodyQ_d0 | apply bodyQ_d1 | apply bodyQ_d2 | apply bodyQ_d3 | apply bodyQ_d4); (exact .inr rfl); (rw [Try.results15]))); (first | (focus (simp only [go_sem, ↓reduceIte, Nat.reduceEqDiff, Nat.reduceBEq, Nat.reduceAdd, Nat.reduceLeDiff, Nat.reduceMul, Nat.reduceLT, Int.reduceToNat, reduceCtorEq, Int.reduceBEq, Int.reduceBNe, Int.reduceLT, Int.reduceLE, Int.reduceGT, Int.reduceGE, Cb.cs, hql, hrl, hgl] <;> rfl)) | exact rfl); (first | (fail_if_success (show okD _ _ _ _ _ _ _ _ _)) | (first | exact okT | exact okN | exact okE rfl)); (first | (fail_if_success (show Bel _ _)) | (focus first | exact .val _ | (simp [oneOf, Bel_iff_tup, Bel_iff_agg, Bel_iff_rsl, Bel_iff_fn, Bel_iff_rptr, Bel_val]; done)))) | (apply calTo0; (exact rfl); (iterate 2 (simp only [go_sem, ↓reduceIte, Nat.reduceEqDiff, Nat.reduceBEq, Nat.reduceAdd, Nat.reduceLeDiff, Nat.reduceMul, Nat.reduceLT, Int.reduceToNat, reduceCtorEq, Int.reduceBEq, Int.reduceBNe, Int.reduceLT, Int.reduceLE, Int.reduceGT, Int.reduceGE, Cb.cs, hql, hrl, hgl]; rfl)); (first | exact hl _ | exact hfi _ | exact k1 _ | exact k2 _ | exact k3 _ | exact k4 _ | exact longs_ok _ _ _ _ l1); (first | exact okT | exact okN | exact okE rfl)) | refine thenQ_n ?_ | refine thenQ_r ?_ | refine thenQ_e ?_ | refine blockQ_n ?_ | refine blockQ_r ?_ | refine blockQ_e ?_ | (apply blockQ_o; (exact rfl)) | refine Awp.seq ?_ | refine Awp.skip ?_ | refine Awp.block ?_ | refine reg (fun s => false) ?_ | (apply drwE mixed (fun s => false); (kernel_rfl)) | refine fin ?_ | refine Awp.ret ?_ | refine Awp.exit ?_ | ((first | (apply off; (exact rfl)) | apply condF); (first | (focus (simp only [go_sem, ↓reduceIte, Nat.reduceEqDiff, Nat.reduceBEq, Nat.reduceAdd, Nat.reduceLeDiff, Nat.reduceMul, Nat.reduceLT, Int.reduceToNat, reduceCtorEq, Int.reduceBEq, Int.reduceBNe, Int.reduceLT, Int.reduceLE, Int.reduceGT, Int.reduceGE, Cb.cs, hql, hrl, hgl] <;> rfl)) | exact rfl)))
      all_goals first | rfl | contradiction | (exfalso; omega) | (exfalso; rename_i h; exact h rfl) | skip

def sh15 : List (Bool × List Sh) := [cbS, (false, [.sl 8 [I]]), (false, [.sl 8 [I]]), (false, [.sl 8 [I]])]
theorem law15 : ∀ xs, ArgsFit sh15 xs → ACalls Try.prog 15 xs [] fun v _ => v = .val (.bool true) := by
  intro xs h0
  obtain ⟨c, l, rfl, h1⟩ := cbArg h0
  obtain ⟨req, ex, l, rfl, hf, h3⟩ := intsArg h1
  obtain ⟨r, ey, l, rfl, hr, h3⟩ := intsArg h3
  obtain ⟨g, ez, l, rfl, hm, h4⟩ := intsArg h3
  obtain rfl := arg0 h4
  exact (CableShares_ok c req r g ex ey ez hf hr hm).mono fun v H' h => h.1

end Go.Proofs.Ytphfdbmbdaninaa.Ab
