/- Cables: the law CableBreakers. -/
import Derived.Test.YtphfdbmbdaninaaWU
import Derived.Test.YtphfdbmbdaninaaWS
import Derived.Test.YtphfdbmbdaninaaWJ
import Derived.Test.YtphfdbmbdaninaaWO
namespace Go.Proofs.Ytphfdbmbdaninaa.Ab
open Go Go.RowKit Go.Proofs
set_option linter.unusedSimpArgs false
set_option linter.unusedVariables false
attribute [local irreducible] Awp wpO thenQ blockQ bodyQ ACalls stepA

theorem intFit (x : List AV) (h : Fits [I] x) : ∃ n : Int, x = [iv n] := by
  obtain ⟨a, _, rfl, _, h⟩ := fitK h
  obtain rfl := fit0 h
  exact ⟨a, rfl⟩
theorem intsArg {r : List (Bool × List Sh)} {xs : List AV} (h : ArgsFit ((false, [.sl 8 [I]]) :: r) xs) : ∃ (v : List Int) (ex : Bool) (l : List AV), xs = .rsl (ints v) ex :: l ∧ v.length ≤ maxLen ∧ ArgsFit r l := by
  obtain ⟨a, l, rfl, h1, h2⟩ := argF h
  obtain ⟨es, ex, bs, e, h3, _, hm, h4⟩ := fitL h1
  cases e
  obtain ⟨s, rfl⟩ := fitMap (fun x : Int => [iv x]) intFit es h3
  exact ⟨s, ex, l, rfl, by rwa [List.length_map] at hm, h2⟩

theorem CableBreakers_ok (c : Cb) (fault : Int) (fs st : List Int) (ex ex' : Bool) (margin : Int) (hf : fs.length ≤ maxLen) (hm : st.length ≤ maxLen) :
    CallsTo Try.prog 7 [.agg c.cs, iv fault, .rsl (ints fs) ex, .rsl (ints st) ex', iv margin] [] (bv true) [] := by
  have hfi := fine_ok
  have hl := fun H => long_ok H c
  have hfl := ints_len fs
  have hsl := ints_len st
  by_cases hL : c.long
  · rw [decide_eq_true hL] at hl
    refine ACalls.of_body Try.func7 rfl (by kernel_rfl) (by rw [Try.ntmps7]; simp) ?_; rw [Try.ntmps7]
    repeat' ((fail_if_success (apply stopR (id := 3))); (fail_if_success (apply stopS (id := 3))); first | refine spD (fun _ => ?_) (fun _ => ?_) | refine spF (fun _ => ?_) (fun _ => ?_) | ((first | (apply stp0; (exact rfl); (exact rfl)) | (apply stpN0; (exact rfl))); (simp only [go_sem, ↓reduceIte, Nat.reduceEqDiff, Nat.reduceBEq, Nat.reduceAdd, Nat.reduceLeDiff, Nat.reduceMul, Nat.reduceLT, Int.reduceToNat, reduceCtorEq, Int.reduceBEq, Int.reduceBNe, Int.reduceLT, Int.reduceLE, Int.reduceGT, Int.reduceGE, Cb.cs, hfl, hsl]; rfl); (first | exact okT | exact okN | exact okE rfl)) | (apply gT; (exact rfl)) | (apply off; (exact rfl); (exact rfl)) | (apply calTo0; (exact rfl); (iterate 2 (simp only [go_sem, ↓reduceIte, Nat.reduceEqDiff, Nat.reduceBEq, Nat.reduceAdd, Nat.reduceLeDiff, Nat.reduceMul, Nat.reduceLT, Int.reduceToNat, reduceCtorEq, Int.reduceBEq, Int.reduceBNe, Int.reduceLT, Int.reduceLE, Int.reduceGT, Int.reduceGE, Cb.cs, hfl, hsl]; rfl)); (first | exact hl _ | exact hfi _); (first | exact okT | exact okN | exact okE rfl)) | refine thenQ_n ?_ | refine thenQ_r ?_ | refine thenQ_e ?_ | refine blockQ_n ?_ | refine blockQ_r ?_ | refine blockQ_e ?_ | (apply blockQ_o; (exact rfl)) | refine Awp.seq ?_ | refine Awp.skip ?_ | refine Awp.block ?_ | refine reg (fun s => false) ?_ | (apply drwE mixed (fun s => false); (kernel_rfl)) | refine fin ?_ | (apply condT; (exact rfl)) | (apply condF; (exact rfl)) | refine Awp.ret ?_ | refine Awp.exit ?_ | ((first | apply bodyQ_d0 | apply bodyQ_d1 | apply bodyQ_d2 | apply bodyQ_d3 | apply bodyQ_d4); (exact .inr rfl); (rw [Try.results7]; simp only [go_sem, ↓reduceIte, Nat.reduceEqDiff, Nat.reduceBEq, Nat.reduceAdd, Nat.reduceLeDiff, Nat.reduceMul, Nat.reduceLT, Int.reduceToNat, reduceCtorEq, Int.reduceBEq, Int.reduceBNe, Int.reduceLT, Int.reduceLE, Int.reduceGT, Int.reduceGE, Cb.cs, hfl, hsl]; rfl); (first | (show Bel _ _; (focus first | exact .val _ | (simp [oneOf, Bel_iff_tup, Bel_iff_agg, Bel_iff_rsl, Bel_iff_fn, Bel_iff_rptr, Bel_val]; done))) | (fail_if_success (show Bel _ _)))) | ((first | apply gT | apply condT); (first | (focus (simp only [go_sem, ↓reduceIte, Nat.reduceEqDiff, Nat.reduceBEq, Nat.reduceAdd, Nat.reduceLeDiff, Nat.reduceMul, Nat.reduceLT, Int.reduceToNat, reduceCtorEq, Int.reduceBEq, Int.reduceBNe, Int.reduceLT, Int.reduceLE, Int.reduceGT, Int.reduceGE, Cb.cs, hfl, hsl] <;> rfl)) | exact rfl)) | ((first | (apply off; (exact rfl)) | apply condF); (first | (focus (simp only [go_sem, ↓reduceIte, Nat.reduceEqDiff, Nat.reduceBEq, Nat.reduceAdd, Nat.reduceLeDiff, Nat.reduceMul, Nat.reduceLT, Int.reduceToNat, reduceCtorEq, Int.reduceBEq, Int.reduceBNe, Int.reduceLT, Int.reduceLE, Int.reduceGT, Int.reduceGE, Cb.cs, hfl, hsl] <;> rfl)) | exact rfl)))
    all_goals first | rfl | (exfalso; omega)
  · rw [decide_eq_false hL] at hl
    by_cases hb : fs.length > 100 ∨ st.length > 100
    · refine ACalls.of_body Try.func7 rfl (by kernel_rfl) (by rw [Try.ntmps7]; simp) ?_; rw [Try.ntmps7]
      repeat' ((fail_if_success (apply stopR (id := 3))); (fail_if_success (apply stopS (id := 3))); first | refine spD (fun _ => ?_) (fun _ => ?_) | refine spF (fun _ => ?_) (fun _ => ?_) | ((first | (apply stp0; (exact rfl); (exact rfl)) | (apply stpN0; (exact rfl))); (simp only [go_sem, ↓reduceIte, Nat.reduceEqDiff, Nat.reduceBEq, Nat.reduceAdd, Nat.reduceLeDiff, Nat.reduceMul, Nat.reduceLT, Int.reduceToNat, reduceCtorEq, Int.reduceBEq, Int.reduceBNe, Int.reduceLT, Int.reduceLE, Int.reduceGT, Int.reduceGE, Cb.cs, hfl, hsl]; rfl); (first | exact okT | exact okN | exact okE rfl)) | (apply gT; (exact rfl)) | (apply off; (exact rfl); (exact rfl)) | (apply calTo0; (exact rfl); (iterate 2 (simp only [go_sem, ↓reduceIte, Nat.reduceEqDiff, Nat.reduceBEq, Nat.reduceAdd, Nat.reduceLeDiff, Nat.reduceMul, Nat.reduceLT, Int.reduceToNat, reduceCtorEq, Int.reduceBEq, Int.reduceBNe, Int.reduceLT, Int.reduceLE, Int.reduceGT, Int.reduceGE, Cb.cs, hfl, hsl]; rfl)); (first | exact hl _ | exact hfi _); (first | exact okT | exact okN | exact okE rfl)) | refine thenQ_n ?_ | refine thenQ_r ?_ | refine thenQ_e ?_ | refine blockQ_n ?_ | refine blockQ_r ?_ | refine blockQ_e ?_ | (apply blockQ_o; (exact rfl)) | refine Awp.seq ?_ | refine Awp.skip ?_ | refine Awp.block ?_ | refine reg (fun s => false) ?_ | (apply drwE mixed (fun s => false); (kernel_rfl)) | refine fin ?_ | (apply condT; (exact rfl)) | (apply condF; (exact rfl)) | refine Awp.ret ?_ | refine Awp.exit ?_ | ((first | apply bodyQ_d0 | apply bodyQ_d1 | apply bodyQ_d2 | apply bodyQ_d3 | apply bodyQ_d4); (exact .inr rfl); (rw [Try.results7]; simp only [go_sem, ↓reduceIte, Nat.reduceEqDiff, Nat.reduceBEq, Nat.reduceAdd, Nat.reduceLeDiff, Nat.reduceMul, Nat.reduceLT, Int.reduceToNat, reduceCtorEq, Int.reduceBEq, Int.reduceBNe, Int.reduceLT, Int.reduceLE, Int.reduceGT, Int.reduceGE, Cb.cs, hfl, hsl]; rfl); (first | (show Bel _ _; (focus first | exact .val _ | (simp [oneOf, Bel_iff_tup, Bel_iff_agg, Bel_iff_rsl, Bel_iff_fn, Bel_iff_rptr, Bel_val]; done))) | (fail_if_success (show Bel _ _)))) | ((first | apply gT | apply condT); (first | (focus (simp only [go_sem, ↓reduceIte, Nat.reduceEqDiff, Nat.reduceBEq, Nat.reduceAdd, Nat.reduceLeDiff, Nat.reduceMul, Nat.reduceLT, Int.reduceToNat, reduceCtorEq, Int.reduceBEq, Int.reduceBNe, Int.reduceLT, Int.reduceLE, Int.reduceGT, Int.reduceGE, Cb.cs, hfl, hsl] <;> rfl)) | exact rfl)) | ((first | (apply off; (exact rfl)) | apply condF); (first | (focus (simp only [go_sem, ↓reduceIte, Nat.reduceEqDiff, Nat.reduceBEq, Nat.reduceAdd, Nat.reduceLeDiff, Nat.reduceMul, Nat.reduceLT, Int.reduceToNat, reduceCtorEq, Int.reduceBEq, Int.reduceBNe, Int.reduceLT, Int.reduceLE, Int.reduceGT, Int.reduceGE, Cb.cs, hfl, hsl] <;> rfl)) | exact rfl)))
      all_goals first | rfl | (exfalso; omega)
    · have k1 := fun H => Opens_ok H c hL fault st ex' hm
      have k2 := fun H => rOpens_ok H c hL fault st ex' hm
      have k3 := fun H => Lost_ok H c hL fs st ex ex' hf hm
      have k4 := fun H => rLost_ok H c hL fs st ex ex' hf hm
      have k5 := fun H => Coord_ok H c hL margin
      have k6 := fun H => rCoord_ok H c hL margin
      rw [nats_ints] at k3 k4
      have l1 : ((lostV c fs st).map (fun (n : Nat) => (n : Int))).length ≤ maxLen := by
        rw [List.length_map]
        unfold lostV
        split
        · rename_i h
          have hg : c.good := ⟨hL, by
            rcases Classical.em (c.code = 0) with h1 | h1
            · exact h1
            · unfold lostE at h; rw [if_pos h1] at h; exact h⟩
          have := lostN_len (gone c.l st (fs.map Int.toNat)) c.l.length
          have h20 := hg.h.2.1
          show (lostN (gone c.l st (fs.map Int.toNat)) c.l.length).length ≤ maxLen
          simp only [maxLen]; omega
        · simp
      generalize opensE c fault st = O at *
      generalize coordE c margin = C at *
      refine ACalls.of_body Try.func7 rfl (by kernel_rfl) (by rw [Try.ntmps7]; simp) ?_; rw [Try.ntmps7]
      repeat' (first | refine spD (fun _ => ?_) (fun _ => ?_) | refine spF (fun _ => ?_) (fun _ => ?_) | ((first | (apply stp0; (exact rfl); (exact rfl)) | (apply stpN0; (exact rfl))); (simp only [go_sem, ↓reduceIte, Nat.reduceEqDiff, Nat.reduceBEq, Nat.reduceAdd, Nat.reduceLeDiff, Nat.reduceMul, Nat.reduceLT, Int.reduceToNat, reduceCtorEq, Int.reduceBEq, Int.reduceBNe, Int.reduceLT, Int.reduceLE, Int.reduceGT, Int.reduceGE, Cb.cs, hfl, hsl, ii, iii, rowE]; rfl); (first | exact okT | exact okN | exact okE rfl)) | (apply gT; (exact rfl)) | (apply off; (exact rfl); (exact rfl)) | (apply calTo0; (exact rfl); (iterate 2 (simp only [go_sem, ↓reduceIte, Nat.reduceEqDiff, Nat.reduceBEq, Nat.reduceAdd, Nat.reduceLeDiff, Nat.reduceMul, Nat.reduceLT, Int.reduceToNat, reduceCtorEq, Int.reduceBEq, Int.reduceBNe, Int.reduceLT, Int.reduceLE, Int.reduceGT, Int.reduceGE, Cb.cs, hfl, hsl, ii, iii, rowE]; rfl)); (first | exact hl _ | exact hfi _ | exact k1 _ | exact k2 _ | exact k3 _ | exact k4 _ | exact k5 _ | exact k6 _ | exact ints_ok _ _ _ _ l1); (first | exact okT | exact okN | exact okE rfl)) | refine thenQ_n ?_ | refine thenQ_r ?_ | refine thenQ_e ?_ | refine blockQ_n ?_ | refine blockQ_r ?_ | refine blockQ_e ?_ | (apply blockQ_o; (exact rfl)) | refine Awp.seq ?_ | refine Awp.skip ?_ | refine Awp.block ?_ | refine reg (fun s => false) ?_ | (apply drwE mixed (fun s => false); (kernel_rfl)) | refine fin ?_ | (apply condT; (exact rfl)) | (apply condF; (exact rfl)) | refine Awp.ret ?_ | refine Awp.exit ?_ | ((first | apply bodyQ_d0 | apply bodyQ_d1 | apply bodyQ_d2 | apply bodyQ_d3 | apply bodyQ_d4); (exact .inr rfl); (rw [Try.results7]; simp only [go_sem, ↓reduceIte, Nat.reduceEqDiff, Nat.reduceBEq, Nat.reduceAdd, Nat.reduceLeDiff, Nat.reduceMul, Nat.reduceLT, Int.reduceToNat, reduceCtorEq, Int.reduceBEq, Int.reduceBNe, Int.reduceLT, Int.reduceLE, Int.reduceGT, Int.reduceGE, Cb.cs, hfl, hsl, ii, iii, rowE]; rfl); (first | (show Bel _ _; (focus first | exact .val _ | (simp [oneOf, Bel_iff_tup, Bel_iff_agg, Bel_iff_rsl, Bel_iff_fn, Bel_iff_rptr, Bel_val]; done))) | (fail_if_success (show Bel _ _)))) | ((first | apply gT | apply condT); (first | (focus (simp only [go_sem, ↓reduceIte, Nat.reduceEqDiff, Nat.reduceBEq, Nat.reduceAdd, Nat.reduceLeDiff, Nat.reduceMul, Nat.reduceLT, Int.reduceToNat, reduceCtorEq, Int.reduceBEq, Int.reduceBNe, Int.reduceLT, Int.reduceLE, Int.reduceGT, Int.reduceGE, Cb.cs, hfl, hsl, ii, iii, rowE] <;> rfl)) | exact rfl)) | ((first | (apply off; (exact rfl)) | apply condF); (first | (focus (simp only [go_sem, ↓reduceIte, Nat.reduceEqDiff, Nat.reduceBEq, Nat.reduceAdd, Nat.reduceLeDiff, Nat.reduceMul, Nat.reduceLT, Int.reduceToNat, reduceCtorEq, Int.reduceBEq, Int.reduceBNe, Int.reduceLT, Int.reduceLE, Int.reduceGT, Int.reduceGE, Cb.cs, hfl, hsl, ii, iii, rowE] <;> rfl)) | exact rfl)))
      all_goals first | rfl | contradiction | (exfalso; omega) | (exfalso; rename_i h; exact h rfl) | skip

def sh7 : List (Bool × List Sh) := [cbS, (false, [I]), (false, [.sl 8 [I]]), (false, [.sl 8 [I]]), (false, [I])]
theorem law7 : ∀ xs, ArgsFit sh7 xs → ACalls Try.prog 7 xs [] fun v _ => v = .val (.bool true) := by
  intro xs h0
  obtain ⟨c, l, rfl, h1⟩ := cbArg h0
  obtain ⟨fault, l, rfl, _, h2⟩ := intArg h1
  obtain ⟨fs, ex, l, rfl, hf, h3⟩ := intsArg h2
  obtain ⟨st, ex', l, rfl, hm, h4⟩ := intsArg h3
  obtain ⟨m, l, rfl, _, h5⟩ := intArg h4
  obtain rfl := arg0 h5
  exact (CableBreakers_ok c fault fs st ex ex' m hf hm).mono fun v H' h => h.1

end Go.Proofs.Ytphfdbmbdaninaa.Ab
