/- Cables: the law CableFaults. -/
import Derived.Test.YtphfdbmbdaninaaUA
import Derived.Test.YtphfdbmbdaninaaU7
import Derived.Test.YtphfdbmbdaninaaWJ
import Derived.Test.YtphfdbmbdaninaaWO
namespace Go.Proofs.Ytphfdbmbdaninaa.Ab
open Go Go.RowKit Go.Proofs
set_option linter.unusedSimpArgs false
set_option linter.unusedVariables false
attribute [local irreducible] Awp wpO thenQ blockQ bodyQ ACalls stepA

theorem segE_len {c : Cb} (hL : ¬ c.long) (v : List Int) (k : Int) (p : Sp) : (segE c v k p).1.length ≤ maxLen := by
  unfold segE
  split
  · simp
  split
  · simp
  split
  · simp
  split
  · simp
  · have h1 := segN_len v p (route c.l k.toNat) (route c.l k.toNat).length (Nat.le_refl _)
    rw [List.take_length] at h1
    have hrl : (route c.l k.toNat).length = (pth c.l k.toNat).length - 1 := by simp [route]
    have h2 := pth_len c.l k.toNat
    have h3 := (good_of hL (by omega)).h.2.1
    simp only [maxLen]
    omega

set_option maxRecDepth 8000 in
set_option maxHeartbeats 8000000 in
theorem CableFaults_ok (c : Cb) (v : List Int) (ex : Bool) (hm : v.length ≤ maxLen) (k : Int) (p : Sp) (m : Ms) (l : List Ms) (ey : Bool) :
    CallsTo Try.prog 12 [.agg c.cs, .rsl (ints v) ex, iv k, .agg p.cs, .agg m.cs, .rsl (mss l) ey] [] (bv true) [] := by
  have hf := fine_ok
  have hl := fun H => long_ok H c
  have hvl := ints_len v
  have hml := mss_len l
  by_cases hL : c.long
  · rw [decide_eq_true hL] at hl
    refine ACalls.of_body Try.func12 rfl (by kernel_rfl) (by rw [Try.ntmps12]; simp) ?_; rw [Try.ntmps12]
    repeat' (first | refine spD (fun _ => ?_) (fun _ => ?_) | refine spF (fun _ => ?_) (fun _ => ?_) | (apply gT; (exact rfl)) | (apply off; (exact rfl); (exact rfl)) | (apply condT; (exact rfl)) | (apply condF; (exact rfl)) | ((first | (apply stp0; (exact rfl); (exact rfl)) | (apply stpN0; (exact rfl)) | apply gT | apply condT | ((first | apply bodyQ_d0 | apply bodyQ_d1 | apply bodyQ_d2 | apply bodyQ_d3 | apply bodyQ_d4); (exact .inr rfl); (rw [Try.results12]))); (first | (focus (simp only [go_sem, ↓reduceIte, Nat.reduceEqDiff, Nat.reduceBEq, Nat.reduceAdd, Nat.reduceLeDiff, Nat.reduceMul, Nat.reduceLT, Int.reduceToNat, reduceCtorEq, Int.reduceBEq, Int.reduceBNe, Int.reduceLT, Int.reduceLE, Int.reduceGT, Int.reduceGE, Cb.cs, Sp.cs, Ms.cs] <;> rfl)) | exact rfl); (first | (fail_if_success (show okD _ _ _ _ _ _ _ _ _)) | (first | exact okT | exact okN | exact okE rfl)); (first | (fail_if_success (show Bel _ _)) | (focus first | exact .val _ | (simp [oneOf, Bel_iff_tup, Bel_iff_agg, Bel_iff_rsl, Bel_iff_fn, Bel_iff_rptr, Bel_val]; done)))) | (apply calTo0; (exact rfl); (iterate 2 (simp only [go_sem, ↓reduceIte, Nat.reduceEqDiff, Nat.reduceBEq, Nat.reduceAdd, Nat.reduceLeDiff, Nat.reduceMul, Nat.reduceLT, Int.reduceToNat, reduceCtorEq, Int.reduceBEq, Int.reduceBNe, Int.reduceLT, Int.reduceLE, Int.reduceGT, Int.reduceGE, Cb.cs, Sp.cs, Ms.cs]; rfl)); (first | exact hl _ | exact hf _); (first | exact okT | exact okN | exact okE rfl)) | refine thenQ_n ?_ | refine thenQ_r ?_ | refine thenQ_e ?_ | refine blockQ_n ?_ | refine blockQ_r ?_ | refine blockQ_e ?_ | (apply blockQ_o; (exact rfl)) | refine Awp.seq ?_ | refine Awp.skip ?_ | refine Awp.block ?_ | refine reg (fun s => s == 13 || s == 15 || s == 17 || s == 19) ?_ | (apply drwE mixed (fun s => s == 13 || s == 15 || s == 17 || s == 19); (kernel_rfl)) | refine fin ?_ | refine Awp.ret ?_ | refine Awp.exit ?_ | ((first | (apply off; (exact rfl)) | apply condF); (first | (focus (simp only [go_sem, ↓reduceIte, Nat.reduceEqDiff, Nat.reduceBEq, Nat.reduceAdd, Nat.reduceLeDiff, Nat.reduceMul, Nat.reduceLT, Int.reduceToNat, reduceCtorEq, Int.reduceBEq, Int.reduceBNe, Int.reduceLT, Int.reduceLE, Int.reduceGT, Int.reduceGE, Cb.cs, Sp.cs, Ms.cs] <;> rfl)) | exact rfl)))
    all_goals rfl
  rw [decide_eq_false hL] at hl
  by_cases h1 : (v.length : Int) > 100
  · refine ACalls.of_body Try.func12 rfl (by kernel_rfl) (by rw [Try.ntmps12]; simp) ?_; rw [Try.ntmps12]
    repeat' (first | refine spD (fun _ => ?_) (fun _ => ?_) | refine spF (fun _ => ?_) (fun _ => ?_) | (apply gT; (exact rfl)) | (apply off; (exact rfl); (exact rfl)) | (apply condT; (exact rfl)) | (apply condF; (exact rfl)) | ((first | (apply stp0; (exact rfl); (exact rfl)) | (apply stpN0; (exact rfl)) | apply gT | apply condT | ((first | apply bodyQ_d0 | apply bodyQ_d1 | apply bodyQ_d2 | apply bodyQ_d3 | apply bodyQ_d4); (exact .inr rfl); (rw [Try.results12]))); (first | (focus (simp only [go_sem, ↓reduceIte, Nat.reduceEqDiff, Nat.reduceBEq, Nat.reduceAdd, Nat.reduceLeDiff, Nat.reduceMul, Nat.reduceLT, Int.reduceToNat, reduceCtorEq, Int.reduceBEq, Int.reduceBNe, Int.reduceLT, Int.reduceLE, Int.reduceGT, Int.reduceGE, Cb.cs, Sp.cs, Ms.cs, hvl, h1] <;> rfl)) | exact rfl); (first | (fail_if_success (show okD _ _ _ _ _ _ _ _ _)) | (first | exact okT | exact okN | exact okE rfl)); (first | (fail_if_success (show Bel _ _)) | (focus first | exact .val _ | (simp [oneOf, Bel_iff_tup, Bel_iff_agg, Bel_iff_rsl, Bel_iff_fn, Bel_iff_rptr, Bel_val]; done)))) | (apply calTo0; (exact rfl); (iterate 2 (simp only [go_sem, ↓reduceIte, Nat.reduceEqDiff, Nat.reduceBEq, Nat.reduceAdd, Nat.reduceLeDiff, Nat.reduceMul, Nat.reduceLT, Int.reduceToNat, reduceCtorEq, Int.reduceBEq, Int.reduceBNe, Int.reduceLT, Int.reduceLE, Int.reduceGT, Int.reduceGE, Cb.cs, Sp.cs, Ms.cs, hvl, h1]; rfl)); (first | exact hl _ | exact hf _); (first | exact okT | exact okN | exact okE rfl)) | refine thenQ_n ?_ | refine thenQ_r ?_ | refine thenQ_e ?_ | refine blockQ_n ?_ | refine blockQ_r ?_ | refine blockQ_e ?_ | (apply blockQ_o; (exact rfl)) | refine Awp.seq ?_ | refine Awp.skip ?_ | refine Awp.block ?_ | refine reg (fun s => s == 13 || s == 15 || s == 17 || s == 19) ?_ | (apply drwE mixed (fun s => s == 13 || s == 15 || s == 17 || s == 19); (kernel_rfl)) | refine fin ?_ | refine Awp.ret ?_ | refine Awp.exit ?_ | ((first | (apply off; (exact rfl)) | apply condF); (first | (focus (simp only [go_sem, ↓reduceIte, Nat.reduceEqDiff, Nat.reduceBEq, Nat.reduceAdd, Nat.reduceLeDiff, Nat.reduceMul, Nat.reduceLT, Int.reduceToNat, reduceCtorEq, Int.reduceBEq, Int.reduceBNe, Int.reduceLT, Int.reduceLE, Int.reduceGT, Int.reduceGE, Cb.cs, Sp.cs, Ms.cs, hvl, h1] <;> rfl)) | exact rfl)))
    all_goals rfl
  by_cases h2 : (l.length : Int) > 60
  · refine ACalls.of_body Try.func12 rfl (by kernel_rfl) (by rw [Try.ntmps12]; simp) ?_; rw [Try.ntmps12]
    repeat' (first | refine spD (fun _ => ?_) (fun _ => ?_) | refine spF (fun _ => ?_) (fun _ => ?_) | (apply gT; (exact rfl)) | (apply off; (exact rfl); (exact rfl)) | (apply condT; (exact rfl)) | (apply condF; (exact rfl)) | ((first | (apply stp0; (exact rfl); (exact rfl)) | (apply stpN0; (exact rfl)) | apply gT | apply condT | ((first | apply bodyQ_d0 | apply bodyQ_d1 | apply bodyQ_d2 | apply bodyQ_d3 | apply bodyQ_d4); (exact .inr rfl); (rw [Try.results12]))); (first | (focus (simp only [go_sem, ↓reduceIte, Nat.reduceEqDiff, Nat.reduceBEq, Nat.reduceAdd, Nat.reduceLeDiff, Nat.reduceMul, Nat.reduceLT, Int.reduceToNat, reduceCtorEq, Int.reduceBEq, Int.reduceBNe, Int.reduceLT, Int.reduceLE, Int.reduceGT, Int.reduceGE, Cb.cs, Sp.cs, Ms.cs, hvl, hml, h1, h2] <;> rfl)) | exact rfl); (first | (fail_if_success (show okD _ _ _ _ _ _ _ _ _)) | (first | exact okT | exact okN | exact okE rfl)); (first | (fail_if_success (show Bel _ _)) | (focus first | exact .val _ | (simp [oneOf, Bel_iff_tup, Bel_iff_agg, Bel_iff_rsl, Bel_iff_fn, Bel_iff_rptr, Bel_val]; done)))) | (apply calTo0; (exact rfl); (iterate 2 (simp only [go_sem, ↓reduceIte, Nat.reduceEqDiff, Nat.reduceBEq, Nat.reduceAdd, Nat.reduceLeDiff, Nat.reduceMul, Nat.reduceLT, Int.reduceToNat, reduceCtorEq, Int.reduceBEq, Int.reduceBNe, Int.reduceLT, Int.reduceLE, Int.reduceGT, Int.reduceGE, Cb.cs, Sp.cs, Ms.cs, hvl, hml, h1, h2]; rfl)); (first | exact hl _ | exact hf _); (first | exact okT | exact okN | exact okE rfl)) | refine thenQ_n ?_ | refine thenQ_r ?_ | refine thenQ_e ?_ | refine blockQ_n ?_ | refine blockQ_r ?_ | refine blockQ_e ?_ | (apply blockQ_o; (exact rfl)) | refine Awp.seq ?_ | refine Awp.skip ?_ | refine Awp.block ?_ | refine reg (fun s => s == 13 || s == 15 || s == 17 || s == 19) ?_ | (apply drwE mixed (fun s => s == 13 || s == 15 || s == 17 || s == 19); (kernel_rfl)) | refine fin ?_ | refine Awp.ret ?_ | refine Awp.exit ?_ | ((first | (apply off; (exact rfl)) | apply condF); (first | (focus (simp only [go_sem, ↓reduceIte, Nat.reduceEqDiff, Nat.reduceBEq, Nat.reduceAdd, Nat.reduceLeDiff, Nat.reduceMul, Nat.reduceLT, Int.reduceToNat, reduceCtorEq, Int.reduceBEq, Int.reduceBNe, Int.reduceLT, Int.reduceLE, Int.reduceGT, Int.reduceGE, Cb.cs, Sp.cs, Ms.cs, hvl, hml, h1, h2] <;> rfl)) | exact rfl)))
    all_goals rfl
  have d1 := fun H => Distance_ok H m
  have d2 := fun H => rDistance_ok H m
  have d3 := fun H => Locate_ok H l ey
  have d4 := fun H => rLocate_ok H l ey
  have d5 := fun H => Segments_ok H c hL v ex hm k p
  have d6 := fun H => rSegments_ok H c hL v ex hm k p
  have hsl := segE_len hL v k p
  generalize segE c v k p = z at d5 d6 hsl
  obtain ⟨zs, ze⟩ := z
  simp only [rowE] at d5 d6 hsl
  rw [nats_ints] at d5 d6
  have hi := fun H => ints_ok H (zs.map fun (n : Nat) => (n : Int)) false false (by simpa using hsl)
  generalize distE m = y at d1 d2
  obtain ⟨ys, ye⟩ := y
  generalize locE l = x at d3 d4
  obtain ⟨xs, xe⟩ := x
  simp only [si, Sp.cs, Ms.cs, Cb.cs] at d1 d2 d3 d4 d5 d6
  refine ACalls.of_body Try.func12 rfl (by kernel_rfl) (by rw [Try.ntmps12]; simp) ?_; rw [Try.ntmps12]
  repeat' (first | refine spD (fun _ => ?_) (fun _ => ?_) | refine spF (fun _ => ?_) (fun _ => ?_) | (apply gT; (exact rfl)) | (apply off; (exact rfl); (exact rfl)) | (apply condT; (exact rfl)) | (apply condF; (exact rfl)) | ((first | (apply stp0; (exact rfl); (exact rfl)) | (apply stpN0; (exact rfl)) | apply gT | apply condT | ((first | apply bodyQ_d0 | apply bodyQ_d1 | apply bodyQ_d2 | apply bodyQ_d3 | apply bodyQ_d4); (exact .inr rfl); (rw [Try.results12]))); (first | (focus (simp only [go_sem, ↓reduceIte, Nat.reduceEqDiff, Nat.reduceBEq, Nat.reduceAdd, Nat.reduceLeDiff, Nat.reduceMul, Nat.reduceLT, Int.reduceToNat, reduceCtorEq, Int.reduceBEq, Int.reduceBNe, Int.reduceLT, Int.reduceLE, Int.reduceGT, Int.reduceGE, Cb.cs, Sp.cs, Ms.cs, hvl, hml, h1, h2] <;> rfl)) | exact rfl); (first | (fail_if_success (show okD _ _ _ _ _ _ _ _ _)) | (first | exact okT | exact okN | exact okE rfl)); (first | (fail_if_success (show Bel _ _)) | (focus first | exact .val _ | (simp [oneOf, Bel_iff_tup, Bel_iff_agg, Bel_iff_rsl, Bel_iff_fn, Bel_iff_rptr, Bel_val]; done)))) | (apply calTo0; (exact rfl); (iterate 2 (simp only [go_sem, ↓reduceIte, Nat.reduceEqDiff, Nat.reduceBEq, Nat.reduceAdd, Nat.reduceLeDiff, Nat.reduceMul, Nat.reduceLT, Int.reduceToNat, reduceCtorEq, Int.reduceBEq, Int.reduceBNe, Int.reduceLT, Int.reduceLE, Int.reduceGT, Int.reduceGE, Cb.cs, Sp.cs, Ms.cs, hvl, hml, h1, h2]; rfl)); (first | exact hl _ | exact hf _ | exact d1 _ | exact d2 _ | exact d3 _ | exact d4 _ | exact d5 _ | exact d6 _ | exact hi _); (first | exact okT | exact okN | exact okE rfl)) | refine thenQ_n ?_ | refine thenQ_r ?_ | refine thenQ_e ?_ | refine blockQ_n ?_ | refine blockQ_r ?_ | refine blockQ_e ?_ | (apply blockQ_o; (exact rfl)) | refine Awp.seq ?_ | refine Awp.skip ?_ | refine Awp.block ?_ | refine reg (fun s => s == 13 || s == 15 || s == 17 || s == 19) ?_ | (apply drwE mixed (fun s => s == 13 || s == 15 || s == 17 || s == 19); (kernel_rfl)) | refine fin ?_ | refine Awp.ret ?_ | refine Awp.exit ?_ | ((first | (apply off; (exact rfl)) | apply condF); (first | (focus (simp only [go_sem, ↓reduceIte, Nat.reduceEqDiff, Nat.reduceBEq, Nat.reduceAdd, Nat.reduceLeDiff, Nat.reduceMul, Nat.reduceLT, Int.reduceToNat, reduceCtorEq, Int.reduceBEq, Int.reduceBNe, Int.reduceLT, Int.reduceLE, Int.reduceGT, Int.reduceGE, Cb.cs, Sp.cs, Ms.cs, hvl, hml, h1, h2] <;> rfl)) | exact rfl)))
  all_goals first | rfl | contradiction | (exfalso; rename_i h; exact h rfl) | skip

theorem spFit (x : List AV) (h : Fits [I, I] x) : ∃ p : Sp, x = p.cs := by
  obtain ⟨a, _, rfl, _, h⟩ := fitK h
  obtain ⟨b, _, rfl, _, h⟩ := fitK h
  obtain rfl := fit0 h
  exact ⟨⟨a, b⟩, rfl⟩
theorem spArg {r : List (Bool × List Sh)} {xs : List AV} (h : ArgsFit ((true, [I, I]) :: r) xs) : ∃ (p : Sp) (l : List AV), xs = .agg p.cs :: l ∧ ArgsFit r l := by
  obtain ⟨bs, l, rfl, h1, h2⟩ := argT h
  obtain ⟨p, rfl⟩ := spFit _ h1
  exact ⟨p, l, rfl, h2⟩
theorem msArg {r : List (Bool × List Sh)} {xs : List AV} (h : ArgsFit ((true, [I, I, I, I, I]) :: r) xs) : ∃ (m : Ms) (l : List AV), xs = .agg m.cs :: l ∧ ArgsFit r l := by
  obtain ⟨bs, l, rfl, h1, h2⟩ := argT h
  obtain ⟨p, rfl⟩ := msFit _ h1
  exact ⟨p, l, rfl, h2⟩
theorem mssArg {r : List (Bool × List Sh)} {xs : List AV} (h : ArgsFit ((false, [.sl 40 [I, I, I, I, I]]) :: r) xs) : ∃ (v : List Ms) (ex : Bool) (l : List AV), xs = .rsl (mss v) ex :: l ∧ ArgsFit r l := by
  obtain ⟨a, l, rfl, h1, h2⟩ := argF h
  obtain ⟨es, ex, bs, e, h3, _, hm, h4⟩ := fitL h1
  cases e
  obtain ⟨s, rfl⟩ := fitMap Ms.cs msFit es h3
  exact ⟨s, ex, l, rfl, h2⟩

def sh12 : List (Bool × List Sh) := [cbS, (false, [.sl 8 [I]]), (false, [I]), (true, [I, I]), (true, [I, I, I, I, I]), (false, [.sl 40 [I, I, I, I, I]])]
theorem law12 : ∀ xs, ArgsFit sh12 xs → ACalls Try.prog 12 xs [] fun v _ => v = .val (.bool true) := by
  intro xs h0
  obtain ⟨c, l, rfl, h1⟩ := cbArg h0
  obtain ⟨v, ex, l, rfl, hm, h2⟩ := intsArg h1
  obtain ⟨k, l, rfl, _, h3⟩ := intArg h2
  obtain ⟨p, l, rfl, h4⟩ := spArg h3
  obtain ⟨m, l, rfl, h5⟩ := msArg h4
  obtain ⟨s, ey, l, rfl, h6⟩ := mssArg h5
  obtain rfl := arg0 h6
  exact (CableFaults_ok c v ex hm k p m s ey).mono fun v H' h => h.1

end Go.Proofs.Ytphfdbmbdaninaa.Ab
