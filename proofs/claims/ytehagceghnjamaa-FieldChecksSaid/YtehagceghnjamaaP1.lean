/- Fields: the law FieldChecks. -/
import Derived.Test.YtehagceghnjamaaP0
import Derived.Test.YtehagceghnjamaaK8
namespace Go.Proofs.Ytehagceghnjamaa.Ab
open Go Go.RowKit Go.Proofs
set_option linter.unusedSimpArgs false
set_option linter.unusedVariables false
attribute [local irreducible] Awp wpO thenQ blockQ bodyQ ACalls stepA

set_option maxRecDepth 8000 in
set_option maxHeartbeats 4000000 in
theorem FieldChecks_ok (H : Hp) (f : Fd) (l : List Seen) (ex : Bool) (a b : Spot) (v : List Int) (ex2 : Bool) : CallsTo Try.prog 7 [.agg f.cs, .rsl (l.map Seen.cs) ex, .agg a.cs, .agg b.cs, .rsl (ints v) ex2] H (bv true) H := by
  have hvl := ints_len v
  refine ACalls.of_body Try.func7 rfl (by kernel_rfl) (by rw [Try.ntmps7]; simp) ?_; rw [Try.ntmps7]
  have hL := long_ok H f l ex
  obtain ⟨d1, d2, hd⟩ : ∃ x y, disE f a b = (x, y) := ⟨_, _, rfl⟩
  have hD := Distance_ok H f a b
  have hD2 := rDistance_ok H f a b
  have hC := Check_ok H f
  have hC2 := rCheck_ok H f
  have hS := CheckSeen_ok H f l ex
  have hS2 := rCheckSeen_ok H f l ex
  obtain ⟨p1, p2, hp⟩ : ∃ x y, posE f v = (x, y) := ⟨_, _, rfl⟩
  have hP := Possible_ok H f v ex2
  have hP2 := rPossible_ok H f v ex2
  obtain ⟨q1, q2, hq⟩ : ∃ x y, fitE f l v = (x, y) := ⟨_, _, rfl⟩
  have hF := Fits_ok H f l ex v ex2
  have hF2 := rFits_ok H f l ex v ex2
  obtain ⟨c1, c2, c3, hc⟩ : ∃ x y z, conE f l = (x, y, z) := ⟨_, _, _, rfl⟩
  have hK := Contradict_ok H f l ex
  have hK2 := rContradict_ok H f l ex
  rw [hd] at hD hD2
  rw [hp] at hP hP2
  rw [hq] at hF hF2
  rw [hc] at hK hK2
  generalize (if f.ok then (0 : Int) else 2) = e0 at *
  generalize f.code l = e1 at *
  generalize decide (long f l.length) = B at *
  cases B
  · repeat' (first | refine spD (fun _ => ?_) (fun _ => ?_) | refine spF (fun _ => ?_) (fun _ => ?_) | (apply stp0; (exact rfl); (exact rfl); (simp only [go_sem, ↓reduceIte, Nat.reduceEqDiff, Nat.reduceBEq, Nat.reduceAdd, Nat.reduceLeDiff, Nat.reduceMul, Nat.reduceLT, Int.reduceToNat, reduceCtorEq, Int.reduceBEq, Int.reduceBNe, Int.reduceLT, Int.reduceLE, Int.reduceGT, Int.reduceGE, Fd.cs, Spot.cs, hvl, two, bi, tri]; rfl); (first | exact okT | exact okN | exact okE rfl)) | (apply gT; (exact rfl)) | (apply off; (exact rfl); (exact rfl)) | (apply stpN0; (exact rfl); (simp only [go_sem, ↓reduceIte, Nat.reduceEqDiff, Nat.reduceBEq, Nat.reduceAdd, Nat.reduceLeDiff, Nat.reduceMul, Nat.reduceLT, Int.reduceToNat, reduceCtorEq, Int.reduceBEq, Int.reduceBNe, Int.reduceLT, Int.reduceLE, Int.reduceGT, Int.reduceGE, Fd.cs, Spot.cs, hvl, two, bi, tri]; rfl); (first | exact okT | exact okN | exact okE rfl)) | (apply calTo0; (exact rfl); (simp only [go_sem, ↓reduceIte, Nat.reduceEqDiff, Nat.reduceBEq, Nat.reduceAdd, Nat.reduceLeDiff, Nat.reduceMul, Nat.reduceLT, Int.reduceToNat, reduceCtorEq, Int.reduceBEq, Int.reduceBNe, Int.reduceLT, Int.reduceLE, Int.reduceGT, Int.reduceGE, Fd.cs, Spot.cs, hvl, two, bi, tri]; rfl); (simp only [go_sem, ↓reduceIte, Nat.reduceEqDiff, Nat.reduceBEq, Nat.reduceAdd, Nat.reduceLeDiff, Nat.reduceMul, Nat.reduceLT, Int.reduceToNat, reduceCtorEq, Int.reduceBEq, Int.reduceBNe, Int.reduceLT, Int.reduceLE, Int.reduceGT, Int.reduceGE, Fd.cs, Spot.cs, hvl, two, bi, tri]; rfl); (first | exact hL | exact hD | exact hD2 | exact hC | exact hC2 | exact hS | exact hS2 | exact hP | exact hP2 | exact hF | exact hF2 | exact hK | exact hK2 | exact fine_ok _); (first | exact okT | exact okN | exact okE rfl)) | refine thenQ_n ?_ | refine thenQ_r ?_ | refine thenQ_e ?_ | refine blockQ_n ?_ | refine blockQ_r ?_ | refine blockQ_e ?_ | (apply blockQ_o; (exact rfl)) | refine Awp.seq ?_ | refine Awp.skip ?_ | refine Awp.block ?_ | refine reg (fun s => false) ?_ | (apply drwE mixed (fun s => false); (kernel_rfl)) | refine fin ?_ | (apply condT; (exact rfl)) | (apply condF; (exact rfl)) | refine Awp.ret ?_ | refine Awp.exit ?_ | (apply bodyQ_d0; (exact .inr rfl); (rw [Try.results7]; simp only [go_sem, ↓reduceIte, Nat.reduceEqDiff, Nat.reduceBEq, Nat.reduceAdd, Nat.reduceLeDiff, Nat.reduceMul, Nat.reduceLT, Int.reduceToNat, reduceCtorEq, Int.reduceBEq, Int.reduceBNe, Int.reduceLT, Int.reduceLE, Int.reduceGT, Int.reduceGE, Fd.cs, Spot.cs, hvl, two, bi, tri]; rfl)) | ((first | apply bodyQ_d1 | apply bodyQ_d2 | apply bodyQ_d3 | apply bodyQ_d4); (exact .inr rfl); (rw [Try.results7]; simp only [go_sem, ↓reduceIte, Nat.reduceEqDiff, Nat.reduceBEq, Nat.reduceAdd, Nat.reduceLeDiff, Nat.reduceMul, Nat.reduceLT, Int.reduceToNat, reduceCtorEq, Int.reduceBEq, Int.reduceBNe, Int.reduceLT, Int.reduceLE, Int.reduceGT, Int.reduceGE, Fd.cs, Spot.cs, hvl, two, bi, tri]; rfl); (focus first | exact .val _ | (simp [oneOf, Bel_iff_tup, Bel_iff_agg, Bel_iff_rsl, Bel_val]; done))) | (apply gT; (focus (simp only [go_sem, ↓reduceIte, Nat.reduceEqDiff, Nat.reduceBEq, Nat.reduceAdd, Nat.reduceLeDiff, Nat.reduceMul, Nat.reduceLT, Int.reduceToNat, reduceCtorEq, Int.reduceBEq, Int.reduceBNe, Int.reduceLT, Int.reduceLE, Int.reduceGT, Int.reduceGE, Fd.cs, Spot.cs, hvl, two, bi, tri] <;> rfl))) | (apply off; (exact rfl); (focus (simp only [go_sem, ↓reduceIte, Nat.reduceEqDiff, Nat.reduceBEq, Nat.reduceAdd, Nat.reduceLeDiff, Nat.reduceMul, Nat.reduceLT, Int.reduceToNat, reduceCtorEq, Int.reduceBEq, Int.reduceBNe, Int.reduceLT, Int.reduceLE, Int.reduceGT, Int.reduceGE, Fd.cs, Spot.cs, hvl, two, bi, tri] <;> rfl))) | (apply condT; (focus (simp only [go_sem, ↓reduceIte, Nat.reduceEqDiff, Nat.reduceBEq, Nat.reduceAdd, Nat.reduceLeDiff, Nat.reduceMul, Nat.reduceLT, Int.reduceToNat, reduceCtorEq, Int.reduceBEq, Int.reduceBNe, Int.reduceLT, Int.reduceLE, Int.reduceGT, Int.reduceGE, Fd.cs, Spot.cs, hvl, two, bi, tri] <;> rfl))) | (apply condF; (focus (simp only [go_sem, ↓reduceIte, Nat.reduceEqDiff, Nat.reduceBEq, Nat.reduceAdd, Nat.reduceLeDiff, Nat.reduceMul, Nat.reduceLT, Int.reduceToNat, reduceCtorEq, Int.reduceBEq, Int.reduceBNe, Int.reduceLT, Int.reduceLE, Int.reduceGT, Int.reduceGE, Fd.cs, Spot.cs, hvl, two, bi, tri] <;> rfl))))
    all_goals first | rfl | (exfalso; omega)
  · repeat' (first | refine spD (fun _ => ?_) (fun _ => ?_) | refine spF (fun _ => ?_) (fun _ => ?_) | (apply stp0; (exact rfl); (exact rfl); (simp only [go_sem, ↓reduceIte, Nat.reduceEqDiff, Nat.reduceBEq, Nat.reduceAdd, Nat.reduceLeDiff, Nat.reduceMul, Nat.reduceLT, Int.reduceToNat, reduceCtorEq, Int.reduceBEq, Int.reduceBNe, Int.reduceLT, Int.reduceLE, Int.reduceGT, Int.reduceGE, Fd.cs, hvl]; rfl); (first | exact okT | exact okN | exact okE rfl)) | (apply gT; (exact rfl)) | (apply off; (exact rfl); (exact rfl)) | (apply stpN0; (exact rfl); (simp only [go_sem, ↓reduceIte, Nat.reduceEqDiff, Nat.reduceBEq, Nat.reduceAdd, Nat.reduceLeDiff, Nat.reduceMul, Nat.reduceLT, Int.reduceToNat, reduceCtorEq, Int.reduceBEq, Int.reduceBNe, Int.reduceLT, Int.reduceLE, Int.reduceGT, Int.reduceGE, Fd.cs, hvl]; rfl); (first | exact okT | exact okN | exact okE rfl)) | (apply calTo0; (exact rfl); (simp only [go_sem, ↓reduceIte, Nat.reduceEqDiff, Nat.reduceBEq, Nat.reduceAdd, Nat.reduceLeDiff, Nat.reduceMul, Nat.reduceLT, Int.reduceToNat, reduceCtorEq, Int.reduceBEq, Int.reduceBNe, Int.reduceLT, Int.reduceLE, Int.reduceGT, Int.reduceGE, Fd.cs, hvl]; rfl); (simp only [go_sem, ↓reduceIte, Nat.reduceEqDiff, Nat.reduceBEq, Nat.reduceAdd, Nat.reduceLeDiff, Nat.reduceMul, Nat.reduceLT, Int.reduceToNat, reduceCtorEq, Int.reduceBEq, Int.reduceBNe, Int.reduceLT, Int.reduceLE, Int.reduceGT, Int.reduceGE, Fd.cs, hvl]; rfl); (first | exact hL | exact fine_ok _); (first | exact okT | exact okN | exact okE rfl)) | refine thenQ_n ?_ | refine thenQ_r ?_ | refine thenQ_e ?_ | refine blockQ_n ?_ | refine blockQ_r ?_ | refine blockQ_e ?_ | (apply blockQ_o; (exact rfl)) | refine Awp.seq ?_ | refine Awp.skip ?_ | refine Awp.block ?_ | refine reg (fun s => false) ?_ | (apply drwE mixed (fun s => false); (kernel_rfl)) | refine fin ?_ | (apply condT; (exact rfl)) | (apply condF; (exact rfl)) | refine Awp.ret ?_ | refine Awp.exit ?_ | (apply bodyQ_d0; (exact .inr rfl); (rw [Try.results7]; simp only [go_sem, ↓reduceIte, Nat.reduceEqDiff, Nat.reduceBEq, Nat.reduceAdd, Nat.reduceLeDiff, Nat.reduceMul, Nat.reduceLT, Int.reduceToNat, reduceCtorEq, Int.reduceBEq, Int.reduceBNe, Int.reduceLT, Int.reduceLE, Int.reduceGT, Int.reduceGE, Fd.cs, hvl]; rfl)) | ((first | apply bodyQ_d1 | apply bodyQ_d2 | apply bodyQ_d3 | apply bodyQ_d4); (exact .inr rfl); (rw [Try.results7]; simp only [go_sem, ↓reduceIte, Nat.reduceEqDiff, Nat.reduceBEq, Nat.reduceAdd, Nat.reduceLeDiff, Nat.reduceMul, Nat.reduceLT, Int.reduceToNat, reduceCtorEq, Int.reduceBEq, Int.reduceBNe, Int.reduceLT, Int.reduceLE, Int.reduceGT, Int.reduceGE, Fd.cs, hvl]; rfl); (focus first | exact .val _ | (simp [oneOf, Bel_iff_tup, Bel_iff_agg, Bel_iff_rsl, Bel_val]; done))) | (apply gT; (focus (simp only [go_sem, ↓reduceIte, Nat.reduceEqDiff, Nat.reduceBEq, Nat.reduceAdd, Nat.reduceLeDiff, Nat.reduceMul, Nat.reduceLT, Int.reduceToNat, reduceCtorEq, Int.reduceBEq, Int.reduceBNe, Int.reduceLT, Int.reduceLE, Int.reduceGT, Int.reduceGE, Fd.cs, hvl] <;> rfl))) | (apply off; (exact rfl); (focus (simp only [go_sem, ↓reduceIte, Nat.reduceEqDiff, Nat.reduceBEq, Nat.reduceAdd, Nat.reduceLeDiff, Nat.reduceMul, Nat.reduceLT, Int.reduceToNat, reduceCtorEq, Int.reduceBEq, Int.reduceBNe, Int.reduceLT, Int.reduceLE, Int.reduceGT, Int.reduceGE, Fd.cs, hvl] <;> rfl))) | (apply condT; (focus (simp only [go_sem, ↓reduceIte, Nat.reduceEqDiff, Nat.reduceBEq, Nat.reduceAdd, Nat.reduceLeDiff, Nat.reduceMul, Nat.reduceLT, Int.reduceToNat, reduceCtorEq, Int.reduceBEq, Int.reduceBNe, Int.reduceLT, Int.reduceLE, Int.reduceGT, Int.reduceGE, Fd.cs, hvl] <;> rfl))) | (apply condF; (focus (simp only [go_sem, ↓reduceIte, Nat.reduceEqDiff, Nat.reduceBEq, Nat.reduceAdd, Nat.reduceLeDiff, Nat.reduceMul, Nat.reduceLT, Int.reduceToNat, reduceCtorEq, Int.reduceBEq, Int.reduceBNe, Int.reduceLT, Int.reduceLE, Int.reduceGT, Int.reduceGE, Fd.cs, hvl] <;> rfl))))
    all_goals first | rfl | (exfalso; omega)

def spotS : Bool × List Sh := (true, [I, I])
theorem spotFit (x : List AV) (h : Fits [I, I] x) : ∃ s : Spot, x = s.cs := by
  obtain ⟨a, _, rfl, _, h⟩ := fitK h
  obtain ⟨b, _, rfl, _, h⟩ := fitK h
  obtain rfl := fit0 h
  exact ⟨⟨a, b⟩, rfl⟩
theorem spotArg {r : List (Bool × List Sh)} {xs : List AV} (h : ArgsFit (spotS :: r) xs) : ∃ (s : Spot) (l : List AV), xs = .agg s.cs :: l ∧ ArgsFit r l := by
  obtain ⟨bs, l, rfl, h1, h2⟩ := argT h
  obtain ⟨s, rfl⟩ := spotFit bs h1
  exact ⟨s, l, rfl, h2⟩

def sh7 : List (Bool × List Sh) := [fdS, seenS, spotS, spotS, intsS]
theorem law7 : ∀ xs, ArgsFit sh7 xs → ACalls Try.prog 7 xs [] fun v _ => v = .val (.bool true) := by
  intro xs h0
  obtain ⟨f, _, rfl, h1⟩ := fdArg h0
  obtain ⟨l, ex, _, rfl, h2⟩ := seenArg h1
  obtain ⟨a, _, rfl, h3⟩ := spotArg h2
  obtain ⟨b, _, rfl, h4⟩ := spotArg h3
  obtain ⟨v, ex2, _, rfl, h5⟩ := intsArg h4
  obtain rfl := arg0 h5
  exact (FieldChecks_ok [] f l ex a b v ex2).mono fun v H' h => h.1

end Go.Proofs.Ytehagceghnjamaa.Ab
