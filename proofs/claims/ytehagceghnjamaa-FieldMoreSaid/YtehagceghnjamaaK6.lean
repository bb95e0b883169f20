/- Fields: Fits and Possible. -/
import Derived.Test.YtehagceghnjamaaL2
namespace Go.Proofs.Ytehagceghnjamaa.Ab
open Go Go.RowKit Go.Proofs
set_option linter.unusedSimpArgs false
set_option linter.unusedVariables false
attribute [local irreducible] Awp wpO thenQ blockQ bodyQ ACalls stepA

/-- do values fit observations? -/
def fits (f : Fd) (l : List Seen) (v : List Int) : Prop := (∀ s ∈ l, ¬ miss f v s) ∧ poss f v
instance (f : Fd) (l : List Seen) (v : List Int) : Decidable (fits f l v) := by unfold fits; infer_instance

theorem fits_iff {f : Fd} {l : List Seen} {v : List Int} : fits f l v ↔ ¬ (∃ s ∈ l, miss f v s) ∧ poss f v := by
  unfold fits
  refine and_congr_left fun _ => ⟨fun h => ?_, fun h s hs hm => h ⟨s, hs, hm⟩⟩
  rintro ⟨s, hs, hm⟩
  exact h s hs hm

/-- what Fits returns -/
def fitE (f : Fd) (l : List Seen) (v : List Int) : Bool × Int := if f.code l = 0 then (if v.length = f.n then (decide (fits f l v), 0) else (false, 17)) else (false, f.code l)
def bi (x : Bool × Int) : AV := .tup [bv x.1, iv x.2]

theorem Fits_ok (H : Hp) (f : Fd) (l : List Seen) (ex : Bool) (v : List Int) (ex2 : Bool) : CallsTo Try.prog 23 [.agg f.cs, .rsl (l.map Seen.cs) ex, .rsl (ints v) ex2] H (bi (fitE f l v)) H := by
  refine ACalls.of_body Try.func23 rfl (by kernel_rfl) (by rw [Try.ntmps23]; simp) ?_; rw [Try.ntmps23]
  by_cases hc : f.code l = 0
  · obtain ⟨hf, h64, hl⟩ := code0 hc
    have hlen : l.length ≤ maxLen := by simp only [maxLen]; omega
    have hnn := hf.nn
    have hcc := hf.cells
    have hlast : 0 ≤ f.last ∧ f.last < 8 := ⟨hf.2.2.2.2.1, hf.2.2.2.2.2.1⟩
    have hvl := ints_len v
    have w1 : IntKind.i64.wrap (f.last + 1) = f.last + 1 := w64 (by omega) (by omega)
    have w2 : IntKind.i64.wrap (f.cells * (f.last + 1)) = f.n := by rw [Int.mul_comm, ← hnn.1]; exact w64 (by omega) (by omega)
    have hS := held (get_new H (sea f (.rsl (l.map Seen.cs) ex) nilS))
    have hS' := hS
    simp only [sea, Fd.cs, List.cons_append, List.nil_append] at hS'
    have hP : (H ++ [sea f (.rsl (l.map Seen.cs) ex) nilS] ++ [ptrO H.length])[(H ++ [sea f (.rsl (l.map Seen.cs) ex) nilS]).length]? = some (ptrO H.length) := get_new _ _
    by_cases hv : v.length = f.n
    · repeat' (first | refine spD (fun _ => ?_) (fun _ => ?_) | refine spF (fun _ => ?_) (fun _ => ?_) | ((first | (apply stp0; (exact rfl); (exact rfl)) | (apply stpN0; (exact rfl))); (simp only [go_sem, ↓reduceIte, Nat.reduceEqDiff, Nat.reduceBEq, Nat.reduceAdd, Nat.reduceLeDiff, Nat.reduceMul, Nat.reduceLT, Int.reduceToNat, reduceCtorEq, Int.reduceBEq, Int.reduceBNe, Int.reduceLT, Int.reduceLE, Int.reduceGT, Int.reduceGE, Fd.cs, hvl, w1, w2, hS']; rfl); (first | exact okT | exact okN | exact okE rfl)) | (apply gT; (exact rfl)) | (apply off; (exact rfl); (exact rfl)) | (apply calTo0; (exact rfl); (iterate 2 (simp only [go_sem, ↓reduceIte, Nat.reduceEqDiff, Nat.reduceBEq, Nat.reduceAdd, Nat.reduceLeDiff, Nat.reduceMul, Nat.reduceLT, Int.reduceToNat, reduceCtorEq, Int.reduceBEq, Int.reduceBNe, Int.reduceLT, Int.reduceLE, Int.reduceGT, Int.reduceGE, Fd.cs, hvl, w1, w2, hS']; rfl)); (first | exact open_yes _ f l ex hc | exact cells_ok _ H.length f hf [.rsl (l.map Seen.cs) ex, nilS] 88 [] (hS.2.1 _) | exact contains_ok _ H.length (H ++ [sea f (.rsl (l.map Seen.cs) ex) nilS]).length f hf [.rsl (l.map Seen.cs) ex, nilS] (hS.2.1 _) hP v ex2 ex hv l hlen (fun x hx => (hl x hx).1) | exact possible_ok _ H.length f hf [.rsl (l.map Seen.cs) ex, nilS] (hS.2.1 _) v ex2 hv); (first | exact okT | exact okN | exact okE rfl)) | refine thenQ_n ?_ | refine thenQ_r ?_ | refine thenQ_e ?_ | refine blockQ_n ?_ | refine blockQ_r ?_ | refine blockQ_e ?_ | (apply blockQ_o; (exact rfl)) | refine Awp.seq ?_ | refine Awp.skip ?_ | refine Awp.block ?_ | refine reg (fun s => s == 8) ?_ | (apply drwE mixed (fun s => s == 8); (kernel_rfl)) | refine fin ?_ | (apply condT; (exact rfl)) | (apply condF; (exact rfl)) | refine Awp.ret ?_ | refine Awp.exit ?_ | ((first | apply bodyQ_d0 | apply bodyQ_d1 | apply bodyQ_d2 | apply bodyQ_d3 | apply bodyQ_d4); (exact .inr rfl); (rw [Try.results23]; simp only [go_sem, ↓reduceIte, Nat.reduceEqDiff, Nat.reduceBEq, Nat.reduceAdd, Nat.reduceLeDiff, Nat.reduceMul, Nat.reduceLT, Int.reduceToNat, reduceCtorEq, Int.reduceBEq, Int.reduceBNe, Int.reduceLT, Int.reduceLE, Int.reduceGT, Int.reduceGE, Fd.cs, hvl, w1, w2, hS']; rfl); (first | (show Bel _ _; (focus first | exact .val _ | (simp [oneOf, Bel_iff_tup, Bel_iff_agg, Bel_iff_rsl, Bel_val]; done))) | (fail_if_success (show Bel _ _)))) | ((first | apply gT | apply condT); (focus (simp only [go_sem, ↓reduceIte, Nat.reduceEqDiff, Nat.reduceBEq, Nat.reduceAdd, Nat.reduceLeDiff, Nat.reduceMul, Nat.reduceLT, Int.reduceToNat, reduceCtorEq, Int.reduceBEq, Int.reduceBNe, Int.reduceLT, Int.reduceLE, Int.reduceGT, Int.reduceGE, Fd.cs, hvl, w1, w2, hS'] <;> rfl))) | ((first | (apply off; (exact rfl)) | apply condF); (focus (simp only [go_sem, ↓reduceIte, Nat.reduceEqDiff, Nat.reduceBEq, Nat.reduceAdd, Nat.reduceLeDiff, Nat.reduceMul, Nat.reduceLT, Int.reduceToNat, reduceCtorEq, Int.reduceBEq, Int.reduceBNe, Int.reduceLT, Int.reduceLE, Int.reduceGT, Int.reduceGE, Fd.cs, hvl, w1, w2, hS'] <;> rfl))))
      all_goals rw [show fitE f l v = (decide (fits f l v), 0) by unfold fitE; rw [if_pos hc, if_pos hv]]
      all_goals first
        | (exfalso; omega)
        | (rw [decide_eq_true (fits_iff.2 ⟨by assumption, by assumption⟩)]; rfl)
        | (rw [decide_eq_false fun h => absurd (fits_iff.1 h).2 (by assumption)]; rfl)
        | (rw [decide_eq_false fun h => absurd (by assumption) (fits_iff.1 h).1]; rfl)
    · repeat' (first | refine spD (fun _ => ?_) (fun _ => ?_) | refine spF (fun _ => ?_) (fun _ => ?_) | ((first | (apply stp0; (exact rfl); (exact rfl)) | (apply stpN0; (exact rfl))); (simp only [go_sem, ↓reduceIte, Nat.reduceEqDiff, Nat.reduceBEq, Nat.reduceAdd, Nat.reduceLeDiff, Nat.reduceMul, Nat.reduceLT, Int.reduceToNat, reduceCtorEq, Int.reduceBEq, Int.reduceBNe, Int.reduceLT, Int.reduceLE, Int.reduceGT, Int.reduceGE, Fd.cs, hvl, w1, w2, hS']; rfl); (first | exact okT | exact okN | exact okE rfl)) | (apply gT; (exact rfl)) | (apply off; (exact rfl); (exact rfl)) | (apply calTo0; (exact rfl); (iterate 2 (simp only [go_sem, ↓reduceIte, Nat.reduceEqDiff, Nat.reduceBEq, Nat.reduceAdd, Nat.reduceLeDiff, Nat.reduceMul, Nat.reduceLT, Int.reduceToNat, reduceCtorEq, Int.reduceBEq, Int.reduceBNe, Int.reduceLT, Int.reduceLE, Int.reduceGT, Int.reduceGE, Fd.cs, hvl, w1, w2, hS']; rfl)); (first | exact open_yes _ f l ex hc | exact cells_ok _ H.length f hf [.rsl (l.map Seen.cs) ex, nilS] 88 [] (hS.2.1 _)); (first | exact okT | exact okN | exact okE rfl)) | refine thenQ_n ?_ | refine thenQ_r ?_ | refine thenQ_e ?_ | refine blockQ_n ?_ | refine blockQ_r ?_ | refine blockQ_e ?_ | (apply blockQ_o; (exact rfl)) | refine Awp.seq ?_ | refine Awp.skip ?_ | refine Awp.block ?_ | refine reg (fun s => s == 8) ?_ | (apply drwE mixed (fun s => s == 8); (kernel_rfl)) | refine fin ?_ | (apply condT; (exact rfl)) | (apply condF; (exact rfl)) | refine Awp.ret ?_ | refine Awp.exit ?_ | ((first | apply bodyQ_d0 | apply bodyQ_d1 | apply bodyQ_d2 | apply bodyQ_d3 | apply bodyQ_d4); (exact .inr rfl); (rw [Try.results23]; simp only [go_sem, ↓reduceIte, Nat.reduceEqDiff, Nat.reduceBEq, Nat.reduceAdd, Nat.reduceLeDiff, Nat.reduceMul, Nat.reduceLT, Int.reduceToNat, reduceCtorEq, Int.reduceBEq, Int.reduceBNe, Int.reduceLT, Int.reduceLE, Int.reduceGT, Int.reduceGE, Fd.cs, hvl, w1, w2, hS']; rfl); (first | (show Bel _ _; (focus first | exact .val _ | (simp [oneOf, Bel_iff_tup, Bel_iff_agg, Bel_iff_rsl, Bel_val]; done))) | (fail_if_success (show Bel _ _)))) | ((first | apply gT | apply condT); (focus (simp only [go_sem, ↓reduceIte, Nat.reduceEqDiff, Nat.reduceBEq, Nat.reduceAdd, Nat.reduceLeDiff, Nat.reduceMul, Nat.reduceLT, Int.reduceToNat, reduceCtorEq, Int.reduceBEq, Int.reduceBNe, Int.reduceLT, Int.reduceLE, Int.reduceGT, Int.reduceGE, Fd.cs, hvl, w1, w2, hS'] <;> rfl))) | ((first | (apply off; (exact rfl)) | apply condF); (focus (simp only [go_sem, ↓reduceIte, Nat.reduceEqDiff, Nat.reduceBEq, Nat.reduceAdd, Nat.reduceLeDiff, Nat.reduceMul, Nat.reduceLT, Int.reduceToNat, reduceCtorEq, Int.reduceBEq, Int.reduceBNe, Int.reduceLT, Int.reduceLE, Int.reduceGT, Int.reduceGE, Fd.cs, hvl, w1, w2, hS'] <;> rfl))))
      all_goals first
        | (exfalso; omega)
        | (rw [show fitE f l v = (false, 17) by unfold fitE; rw [if_pos hc, if_neg hv]]; rfl)
  · repeat' (first | refine spD (fun _ => ?_) (fun _ => ?_) | refine spF (fun _ => ?_) (fun _ => ?_) | ((first | (apply stp0; (exact rfl); (exact rfl)) | (apply stpN0; (exact rfl))); (simp only [go_sem, ↓reduceIte, Nat.reduceEqDiff, Nat.reduceBEq, Nat.reduceAdd, Nat.reduceLeDiff, Nat.reduceMul, Nat.reduceLT, Int.reduceToNat, reduceCtorEq, Int.reduceBEq, Int.reduceBNe, Int.reduceLT, Int.reduceLE, Int.reduceGT, Int.reduceGE, Fd.cs]; rfl); (first | exact okT | exact okN | exact okE rfl)) | (apply gT; (exact rfl)) | (apply off; (exact rfl); (exact rfl)) | (apply calTo0; (exact rfl); (iterate 2 (simp only [go_sem, ↓reduceIte, Nat.reduceEqDiff, Nat.reduceBEq, Nat.reduceAdd, Nat.reduceLeDiff, Nat.reduceMul, Nat.reduceLT, Int.reduceToNat, reduceCtorEq, Int.reduceBEq, Int.reduceBNe, Int.reduceLT, Int.reduceLE, Int.reduceGT, Int.reduceGE, Fd.cs]; rfl)); (first | exact open_no _ f l ex hc); (first | exact okT | exact okN | exact okE rfl)) | refine thenQ_n ?_ | refine thenQ_r ?_ | refine thenQ_e ?_ | refine blockQ_n ?_ | refine blockQ_r ?_ | refine blockQ_e ?_ | (apply blockQ_o; (exact rfl)) | refine Awp.seq ?_ | refine Awp.skip ?_ | refine Awp.block ?_ | refine reg (fun s => s == 8) ?_ | (apply drwE mixed (fun s => s == 8); (kernel_rfl)) | refine fin ?_ | (apply condT; (exact rfl)) | (apply condF; (exact rfl)) | refine Awp.ret ?_ | refine Awp.exit ?_ | ((first | apply bodyQ_d0 | apply bodyQ_d1 | apply bodyQ_d2 | apply bodyQ_d3 | apply bodyQ_d4); (exact .inr rfl); (rw [Try.results23]; simp only [go_sem, ↓reduceIte, Nat.reduceEqDiff, Nat.reduceBEq, Nat.reduceAdd, Nat.reduceLeDiff, Nat.reduceMul, Nat.reduceLT, Int.reduceToNat, reduceCtorEq, Int.reduceBEq, Int.reduceBNe, Int.reduceLT, Int.reduceLE, Int.reduceGT, Int.reduceGE, Fd.cs]; rfl); (first | (show Bel _ _; (focus first | exact .val _ | (simp [oneOf, Bel_iff_tup, Bel_iff_agg, Bel_iff_rsl, Bel_val]; done))) | (fail_if_success (show Bel _ _)))) | ((first | apply gT | apply condT); (focus (simp only [go_sem, ↓reduceIte, Nat.reduceEqDiff, Nat.reduceBEq, Nat.reduceAdd, Nat.reduceLeDiff, Nat.reduceMul, Nat.reduceLT, Int.reduceToNat, reduceCtorEq, Int.reduceBEq, Int.reduceBNe, Int.reduceLT, Int.reduceLE, Int.reduceGT, Int.reduceGE, Fd.cs] <;> rfl))) | ((first | (apply off; (exact rfl)) | apply condF); (focus (simp only [go_sem, ↓reduceIte, Nat.reduceEqDiff, Nat.reduceBEq, Nat.reduceAdd, Nat.reduceLeDiff, Nat.reduceMul, Nat.reduceLT, Int.reduceToNat, reduceCtorEq, Int.reduceBEq, Int.reduceBNe, Int.reduceLT, Int.reduceLE, Int.reduceGT, Int.reduceGE, Fd.cs] <;> rfl))))
    all_goals first
      | (exfalso; omega)
      | (rename_i h; exact absurd h hc)
      | (rw [show fitE f l v = (false, f.code l) by unfold fitE; rw [if_neg hc]]; rfl)

/-- what Possible returns -/
def posE (f : Fd) (v : List Int) : Bool × Int := if f.ok then (if v.length = f.n then (decide (poss f v), 0) else (false, 17)) else (false, 2)

theorem code_nil (f : Fd) : f.code [] = if f.ok then 0 else 2 := by
  unfold Fd.code
  split
  · rw [if_neg (by simp), if_pos (by simp [Fd.seenOk])]
  · rfl

theorem posE_eq (f : Fd) (v : List Int) : fitE f [] v = posE f v := by
  unfold fitE posE
  rw [code_nil]
  by_cases hf : f.ok
  · simp [hf, fits]
  · simp [hf]

theorem Possible_ok (H : Hp) (f : Fd) (v : List Int) (ex : Bool) : CallsTo Try.prog 25 [.agg f.cs, .rsl (ints v) ex] H (bi (posE f v)) H := by
  rw [← posE_eq]
  refine ACalls.of_body Try.func25 rfl (by kernel_rfl) (by rw [Try.ntmps25]; simp) ?_; rw [Try.ntmps25]
  have hF := Fits_ok H f [] true v ex
  have hF2 : CallsTo Try.prog 23 [.agg f.cs, nilS, .rsl (ints v) ex] H (bi (fitE f [] v)) H := by
    refine ACalls.withArgs (fun g vs hr => ?_) hF
    exact nilArg hr
  repeat' (first | refine spD (fun _ => ?_) (fun _ => ?_) | refine spF (fun _ => ?_) (fun _ => ?_) | ((first | (apply stp0; (exact rfl); (exact rfl)) | (apply stpN0; (exact rfl))); (simp only [go_sem, ↓reduceIte, Nat.reduceEqDiff, Nat.reduceBEq, Nat.reduceAdd, Nat.reduceLeDiff, Nat.reduceMul, Nat.reduceLT, Int.reduceToNat, reduceCtorEq, Int.reduceBEq, Int.reduceBNe, Int.reduceLT, Int.reduceLE, Int.reduceGT, Int.reduceGE, Fd.cs, bi]; rfl); (first | exact okT | exact okN | exact okE rfl)) | (apply gT; (exact rfl)) | (apply off; (exact rfl); (exact rfl)) | (apply calTo0; (exact rfl); (iterate 2 (simp only [go_sem, ↓reduceIte, Nat.reduceEqDiff, Nat.reduceBEq, Nat.reduceAdd, Nat.reduceLeDiff, Nat.reduceMul, Nat.reduceLT, Int.reduceToNat, reduceCtorEq, Int.reduceBEq, Int.reduceBNe, Int.reduceLT, Int.reduceLE, Int.reduceGT, Int.reduceGE, Fd.cs, bi]; rfl)); (first | exact hF2); (first | exact okT | exact okN | exact okE rfl)) | refine thenQ_n ?_ | refine thenQ_r ?_ | refine thenQ_e ?_ | refine blockQ_n ?_ | refine blockQ_r ?_ | refine blockQ_e ?_ | (apply blockQ_o; (exact rfl)) | refine Awp.seq ?_ | refine Awp.skip ?_ | refine Awp.block ?_ | refine reg (fun s => false) ?_ | (apply drwE mixed (fun s => false); (kernel_rfl)) | refine fin ?_ | (apply condT; (exact rfl)) | (apply condF; (exact rfl)) | refine Awp.ret ?_ | refine Awp.exit ?_ | ((first | apply bodyQ_d0 | apply bodyQ_d1 | apply bodyQ_d2 | apply bodyQ_d3 | apply bodyQ_d4); (exact .inr rfl); (rw [Try.results25]; simp only [go_sem, ↓reduceIte, Nat.reduceEqDiff, Nat.reduceBEq, Nat.reduceAdd, Nat.reduceLeDiff, Nat.reduceMul, Nat.reduceLT, Int.reduceToNat, reduceCtorEq, Int.reduceBEq, Int.reduceBNe, Int.reduceLT, Int.reduceLE, Int.reduceGT, Int.reduceGE, Fd.cs, bi]; rfl); (first | (show Bel _ _; (focus first | exact .val _ | (simp [oneOf, Bel_iff_tup, Bel_iff_agg, Bel_iff_rsl, Bel_val]; done))) | (fail_if_success (show Bel _ _)))) | ((first | apply gT | apply condT); (focus (simp only [go_sem, ↓reduceIte, Nat.reduceEqDiff, Nat.reduceBEq, Nat.reduceAdd, Nat.reduceLeDiff, Nat.reduceMul, Nat.reduceLT, Int.reduceToNat, reduceCtorEq, Int.reduceBEq, Int.reduceBNe, Int.reduceLT, Int.reduceLE, Int.reduceGT, Int.reduceGE, Fd.cs, bi] <;> rfl))) | ((first | (apply off; (exact rfl)) | apply condF); (focus (simp only [go_sem, ↓reduceIte, Nat.reduceEqDiff, Nat.reduceBEq, Nat.reduceAdd, Nat.reduceLeDiff, Nat.reduceMul, Nat.reduceLT, Int.reduceToNat, reduceCtorEq, Int.reduceBEq, Int.reduceBNe, Int.reduceLT, Int.reduceLE, Int.reduceGT, Int.reduceGE, Fd.cs, bi] <;> rfl))))
  rfl

end Go.Proofs.Ytehagceghnjamaa.Ab
