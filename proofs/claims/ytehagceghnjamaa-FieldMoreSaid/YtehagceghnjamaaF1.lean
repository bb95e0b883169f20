/- Fields: the number of cells, spots, the distance. -/
import Derived.Test.YtehagceghnjamaaF0
namespace Go.Proofs.Ytehagceghnjamaa.Ab
open Go Go.RowKit Go.Proofs
set_option linter.unusedSimpArgs false
set_option linter.unusedVariables false
attribute [local irreducible] Awp wpO thenQ blockQ bodyQ ACalls stepA

structure Fd where
  w : Int
  h : Int
  last : Int
  lo : Int
  hi : Int
  sp : Int
  ch : Int

def Fd.cs (f : Fd) : List AV := [iv f.w, iv f.h, iv f.last, iv f.lo, iv f.hi, iv f.sp, iv f.ch]

structure Spot where
  m : Int
  c : Int
  deriving DecidableEq

def Spot.cs (a : Spot) : List AV := [iv a.m, iv a.c]

structure Seen where
  m : Int
  c : Int
  lo : Int
  hi : Int

def Seen.cs (a : Seen) : List AV := [iv a.m, iv a.c, iv a.lo, iv a.hi]
def Seen.spot (a : Seen) : Spot := ⟨a.m, a.c⟩
def Seen.set (a : Seen) : Sp := ⟨a.lo, a.hi⟩

def Fd.ok (f : Fd) : Prop := 1 ≤ f.w ∧ f.w ≤ 8 ∧ 1 ≤ f.h ∧ f.h ≤ 8 ∧ 0 ≤ f.last ∧ f.last < 8 ∧ 0 ≤ f.sp ∧ f.sp ≤ 1048576 ∧ 0 ≤ f.ch ∧ f.ch ≤ 1048576 ∧ f.lo ≤ f.hi ∧ -16777216 ≤ f.lo ∧ f.hi ≤ 16777216
instance (f : Fd) : Decidable f.ok := by unfold Fd.ok; infer_instance

def Fd.cells (f : Fd) : Int := f.w * f.h
def Fd.has (f : Fd) (s : Spot) : Prop := 0 ≤ s.m ∧ s.m ≤ f.last ∧ 0 ≤ s.c ∧ s.c < f.cells
instance (f : Fd) (s : Spot) : Decidable (f.has s) := by unfold Fd.has; infer_instance

def absZ (x : Int) : Int := max x (-x)
def Fd.away (f : Fd) (a b : Spot) : Int := f.sp * (absZ (a.c.tmod f.w - b.c.tmod f.w) + absZ (a.c.tdiv f.w - b.c.tdiv f.w)) + f.ch * absZ (a.m - b.m)

theorem mul_in {a b A B : Int} (h1 : 0 ≤ a) (h2 : a ≤ A) (h3 : 0 ≤ b) (h4 : b ≤ B) : 0 ≤ a * b ∧ a * b ≤ A * B :=
  ⟨Int.mul_nonneg h1 h3, Int.mul_le_mul h2 h4 h3 (by omega)⟩

theorem Fd.ok.cells {f : Fd} (h : f.ok) : 1 ≤ f.cells ∧ f.cells ≤ 64 := by
  obtain ⟨h1, h2, h3, h4, _⟩ := h
  have := mul_in (a := f.w - 1) (b := f.h - 1) (A := 7) (B := 7) (by omega) (by omega) (by omega) (by omega)
  have e : (f.w - 1) * (f.h - 1) = f.w * f.h - f.w - f.h + 1 := by rw [Int.sub_mul, Int.mul_sub]; omega
  unfold Fd.cells
  omega

theorem Fd.ok.wrapCells {f : Fd} (h : f.ok) : IntKind.i64.wrap (f.w * f.h) = f.cells := by
  have := h.cells
  unfold Fd.cells at *
  exact w64 (by omega) (by omega)

theorem Sp.bad_iff (a : Sp) : a.bad = true ↔ a.lo > a.hi ∨ a.lo < -1073741824 ∨ a.hi > 1073741824 := by simp [Sp.bad, or_assoc]
theorem ite2_eq (p : Prop) [Decidable p] : ((if p then (2 : Int) else 0) = 0) ↔ ¬ p := by split <;> simp [*]
theorem ite2_ne (p : Prop) [Decidable p] : ((if p then (2 : Int) else 0) ≠ 0) ↔ p := by split <;> simp [*]

theorem Check_ok (H : Hp) (f : Fd) : CallsTo Try.prog 28 [.agg f.cs] H (iv (if f.ok then 0 else 2)) H := by
  refine ACalls.of_body Try.func28 rfl (by kernel_rfl) (by rw [Try.ntmps28]; simp) ?_; rw [Try.ntmps28]
  repeat' (first | refine spD (fun _ => ?_) (fun _ => ?_) | refine spF (fun _ => ?_) (fun _ => ?_) | ((first | (apply stp0; (exact rfl); (exact rfl)) | (apply stpN0; (exact rfl))); (simp only [go_sem, ↓reduceIte, Nat.reduceEqDiff, Nat.reduceBEq, Nat.reduceAdd, Nat.reduceLeDiff, Nat.reduceMul, Nat.reduceLT, Int.reduceToNat, reduceCtorEq, Int.reduceBEq, Int.reduceBNe, Int.reduceLT, Int.reduceLE, Int.reduceGT, Int.reduceGE, Fd.cs]; rfl); (first | exact okT | exact okN | exact okE rfl)) | (apply gT; (exact rfl)) | (apply off; (exact rfl); (exact rfl)) | (apply calTo0; (exact rfl); (iterate 2 (simp only [go_sem, ↓reduceIte, Nat.reduceEqDiff, Nat.reduceBEq, Nat.reduceAdd, Nat.reduceLeDiff, Nat.reduceMul, Nat.reduceLT, Int.reduceToNat, reduceCtorEq, Int.reduceBEq, Int.reduceBNe, Int.reduceLT, Int.reduceLE, Int.reduceGT, Int.reduceGE, Fd.cs]; rfl)); (first | exact outside_ok _ _ _ _ | exact bCheck_ok _ ⟨f.lo, f.hi⟩); (first | exact okT | exact okN | exact okE rfl)) | refine thenQ_n ?_ | refine thenQ_r ?_ | refine thenQ_e ?_ | refine blockQ_n ?_ | refine blockQ_r ?_ | refine blockQ_e ?_ | (apply blockQ_o; (exact rfl)) | refine Awp.seq ?_ | refine Awp.skip ?_ | refine Awp.block ?_ | refine reg (fun s => false) ?_ | (apply drwE mixed (fun s => false); (kernel_rfl)) | refine fin ?_ | (apply condT; (exact rfl)) | (apply condF; (exact rfl)) | refine Awp.ret ?_ | refine Awp.exit ?_ | ((first | apply bodyQ_d0 | apply bodyQ_d1 | apply bodyQ_d2 | apply bodyQ_d3 | apply bodyQ_d4); (exact .inr rfl); (rw [Try.results28]; simp only [go_sem, ↓reduceIte, Nat.reduceEqDiff, Nat.reduceBEq, Nat.reduceAdd, Nat.reduceLeDiff, Nat.reduceMul, Nat.reduceLT, Int.reduceToNat, reduceCtorEq, Int.reduceBEq, Int.reduceBNe, Int.reduceLT, Int.reduceLE, Int.reduceGT, Int.reduceGE, Fd.cs]; rfl); (first | (show Bel _ _; (focus first | exact .val _ | (simp [oneOf, Bel_iff_tup, Bel_iff_agg, Bel_iff_rsl, Bel_val]; done))) | (fail_if_success (show Bel _ _)))) | ((first | apply gT | apply condT); (focus (simp only [go_sem, ↓reduceIte, Nat.reduceEqDiff, Nat.reduceBEq, Nat.reduceAdd, Nat.reduceLeDiff, Nat.reduceMul, Nat.reduceLT, Int.reduceToNat, reduceCtorEq, Int.reduceBEq, Int.reduceBNe, Int.reduceLT, Int.reduceLE, Int.reduceGT, Int.reduceGE, Fd.cs] <;> rfl))) | ((first | (apply off; (exact rfl)) | apply condF); (focus (simp only [go_sem, ↓reduceIte, Nat.reduceEqDiff, Nat.reduceBEq, Nat.reduceAdd, Nat.reduceLeDiff, Nat.reduceMul, Nat.reduceLT, Int.reduceToNat, reduceCtorEq, Int.reduceBEq, Int.reduceBNe, Int.reduceLT, Int.reduceLE, Int.reduceGT, Int.reduceGE, Fd.cs] <;> rfl))))
  all_goals simp only [oneOf, iv, AV.val.injEq, Value.int.injEq, true_and]
  all_goals split
  all_goals rename_i hok
  all_goals first | rfl | skip
  all_goals exfalso
  all_goals unfold Fd.ok at hok
  all_goals try simp only [ite2_eq, ite2_ne, Sp.bad_iff] at *
  all_goals omega

theorem cells_ok (H : Hp) (s : Nat) (f : Fd) (hf : f.ok) (cs : List AV) (t : TypeId) (es : List (List AV)) (hs : H[s]? = some (.cells ((f.cs ++ cs) :: es) t)) : CallsTo Try.prog 59 [.mptr s 0 0] H (iv f.cells) H := by
  refine ACalls.of_body Try.func59 rfl (by kernel_rfl) (by rw [Try.ntmps59]; simp) ?_; rw [Try.ntmps59]
  repeat' (first | refine spD (fun _ => ?_) (fun _ => ?_) | refine spF (fun _ => ?_) (fun _ => ?_) | ((first | (apply stp0; (exact rfl); (exact rfl)) | (apply stpN0; (exact rfl))); (simp only [go_sem, ↓reduceIte, Nat.reduceEqDiff, Nat.reduceBEq, Nat.reduceAdd, Nat.reduceLeDiff, Nat.reduceMul, Nat.reduceLT, Int.reduceToNat, reduceCtorEq, Int.reduceBEq, Int.reduceBNe, Int.reduceLT, Int.reduceLE, Int.reduceGT, Int.reduceGE, hs, Fd.cs]; rfl); (first | exact okT | exact okN | exact okE rfl)) | (apply gT; (exact rfl)) | (apply off; (exact rfl); (exact rfl)) | refine thenQ_n ?_ | refine thenQ_r ?_ | refine thenQ_e ?_ | refine blockQ_n ?_ | refine blockQ_r ?_ | refine blockQ_e ?_ | (apply blockQ_o; (exact rfl)) | refine Awp.seq ?_ | refine Awp.skip ?_ | refine Awp.block ?_ | refine reg (fun s => false) ?_ | (apply drwE mixed (fun s => false); (kernel_rfl)) | refine fin ?_ | (apply condT; (exact rfl)) | (apply condF; (exact rfl)) | refine Awp.ret ?_ | refine Awp.exit ?_ | ((first | apply bodyQ_d0 | apply bodyQ_d1 | apply bodyQ_d2 | apply bodyQ_d3 | apply bodyQ_d4); (exact .inr rfl); (rw [Try.results59]; simp only [go_sem, ↓reduceIte, Nat.reduceEqDiff, Nat.reduceBEq, Nat.reduceAdd, Nat.reduceLeDiff, Nat.reduceMul, Nat.reduceLT, Int.reduceToNat, reduceCtorEq, Int.reduceBEq, Int.reduceBNe, Int.reduceLT, Int.reduceLE, Int.reduceGT, Int.reduceGE, hs, Fd.cs]; rfl); (first | (show Bel _ _; (focus first | exact .val _ | (simp [oneOf, Bel_iff_tup, Bel_iff_agg, Bel_iff_rsl, Bel_val]; done))) | (fail_if_success (show Bel _ _)))) | ((first | apply gT | apply condT); (focus (simp only [go_sem, ↓reduceIte, Nat.reduceEqDiff, Nat.reduceBEq, Nat.reduceAdd, Nat.reduceLeDiff, Nat.reduceMul, Nat.reduceLT, Int.reduceToNat, reduceCtorEq, Int.reduceBEq, Int.reduceBNe, Int.reduceLT, Int.reduceLE, Int.reduceGT, Int.reduceGE, hs, Fd.cs] <;> rfl))) | ((first | (apply off; (exact rfl)) | apply condF); (focus (simp only [go_sem, ↓reduceIte, Nat.reduceEqDiff, Nat.reduceBEq, Nat.reduceAdd, Nat.reduceLeDiff, Nat.reduceMul, Nat.reduceLT, Int.reduceToNat, reduceCtorEq, Int.reduceBEq, Int.reduceBNe, Int.reduceLT, Int.reduceLE, Int.reduceGT, Int.reduceGE, hs, Fd.cs] <;> rfl))))
  simp [oneOf, hf.wrapCells]

theorem has_ok (H : Hp) (s : Nat) (f : Fd) (hf : f.ok) (cs : List AV) (t : TypeId) (es : List (List AV)) (hs : H[s]? = some (.cells ((f.cs ++ cs) :: es) t)) (x : Spot) :
    CallsTo Try.prog 53 [.mptr s 0 0, .agg x.cs] H (bv (decide (f.has x))) H := by
  refine ACalls.of_body Try.func53 rfl (by kernel_rfl) (by rw [Try.ntmps53]; simp) ?_; rw [Try.ntmps53]
  repeat' (first | refine spD (fun _ => ?_) (fun _ => ?_) | refine spF (fun _ => ?_) (fun _ => ?_) | ((first | (apply stp0; (exact rfl); (exact rfl)) | (apply stpN0; (exact rfl))); (simp only [go_sem, ↓reduceIte, Nat.reduceEqDiff, Nat.reduceBEq, Nat.reduceAdd, Nat.reduceLeDiff, Nat.reduceMul, Nat.reduceLT, Int.reduceToNat, reduceCtorEq, Int.reduceBEq, Int.reduceBNe, Int.reduceLT, Int.reduceLE, Int.reduceGT, Int.reduceGE, hs, Fd.cs, Spot.cs]; rfl); (first | exact okT | exact okN | exact okE rfl)) | (apply gT; (exact rfl)) | (apply off; (exact rfl); (exact rfl)) | (apply calTo0; (exact rfl); (iterate 2 (simp only [go_sem, ↓reduceIte, Nat.reduceEqDiff, Nat.reduceBEq, Nat.reduceAdd, Nat.reduceLeDiff, Nat.reduceMul, Nat.reduceLT, Int.reduceToNat, reduceCtorEq, Int.reduceBEq, Int.reduceBNe, Int.reduceLT, Int.reduceLE, Int.reduceGT, Int.reduceGE, hs, Fd.cs, Spot.cs]; rfl)); (first | exact cells_ok _ s f hf cs t es hs); (first | exact okT | exact okN | exact okE rfl)) | refine thenQ_n ?_ | refine thenQ_r ?_ | refine thenQ_e ?_ | refine blockQ_n ?_ | refine blockQ_r ?_ | refine blockQ_e ?_ | (apply blockQ_o; (exact rfl)) | refine Awp.seq ?_ | refine Awp.skip ?_ | refine Awp.block ?_ | refine reg (fun s => false) ?_ | (apply drwE mixed (fun s => false); (kernel_rfl)) | refine fin ?_ | (apply condT; (exact rfl)) | (apply condF; (exact rfl)) | refine Awp.ret ?_ | refine Awp.exit ?_ | ((first | apply bodyQ_d0 | apply bodyQ_d1 | apply bodyQ_d2 | apply bodyQ_d3 | apply bodyQ_d4); (exact .inr rfl); (rw [Try.results53]; simp only [go_sem, ↓reduceIte, Nat.reduceEqDiff, Nat.reduceBEq, Nat.reduceAdd, Nat.reduceLeDiff, Nat.reduceMul, Nat.reduceLT, Int.reduceToNat, reduceCtorEq, Int.reduceBEq, Int.reduceBNe, Int.reduceLT, Int.reduceLE, Int.reduceGT, Int.reduceGE, hs, Fd.cs, Spot.cs]; rfl); (first | (show Bel _ _; (focus first | exact .val _ | (simp [oneOf, Bel_iff_tup, Bel_iff_agg, Bel_iff_rsl, Bel_val]; done))) | (fail_if_success (show Bel _ _)))) | ((first | apply gT | apply condT); (focus (simp only [go_sem, ↓reduceIte, Nat.reduceEqDiff, Nat.reduceBEq, Nat.reduceAdd, Nat.reduceLeDiff, Nat.reduceMul, Nat.reduceLT, Int.reduceToNat, reduceCtorEq, Int.reduceBEq, Int.reduceBNe, Int.reduceLT, Int.reduceLE, Int.reduceGT, Int.reduceGE, hs, Fd.cs, Spot.cs] <;> rfl))) | ((first | (apply off; (exact rfl)) | apply condF); (focus (simp only [go_sem, ↓reduceIte, Nat.reduceEqDiff, Nat.reduceBEq, Nat.reduceAdd, Nat.reduceLeDiff, Nat.reduceMul, Nat.reduceLT, Int.reduceToNat, reduceCtorEq, Int.reduceBEq, Int.reduceBNe, Int.reduceLT, Int.reduceLE, Int.reduceGT, Int.reduceGE, hs, Fd.cs, Spot.cs] <;> rfl))))
  all_goals simp only [oneOf, bv, AV.val.injEq, Value.bool.injEq]
  all_goals symm
  all_goals first | (rw [decide_eq_true_eq]; exact ⟨by omega, by omega, by omega, by omega⟩) | (rw [decide_eq_false_iff_not]; rintro ⟨_, _, _, _⟩; omega)

theorem number_ok (H : Hp) (s : Nat) (f : Fd) (hf : f.ok) (cs : List AV) (t : TypeId) (es : List (List AV)) (hs : H[s]? = some (.cells ((f.cs ++ cs) :: es) t)) (x : Spot) (hx : f.has x) :
    CallsTo Try.prog 61 [.mptr s 0 0, .agg x.cs] H (iv (x.m * f.cells + x.c)) H := by
  refine ACalls.of_body Try.func61 rfl (by kernel_rfl) (by rw [Try.ntmps61]; simp) ?_; rw [Try.ntmps61]
  repeat' (first | refine spD (fun _ => ?_) (fun _ => ?_) | refine spF (fun _ => ?_) (fun _ => ?_) | ((first | (apply stp0; (exact rfl); (exact rfl)) | (apply stpN0; (exact rfl))); (simp only [go_sem, ↓reduceIte, Nat.reduceEqDiff, Nat.reduceBEq, Nat.reduceAdd, Nat.reduceLeDiff, Nat.reduceMul, Nat.reduceLT, Int.reduceToNat, reduceCtorEq, Int.reduceBEq, Int.reduceBNe, Int.reduceLT, Int.reduceLE, Int.reduceGT, Int.reduceGE, hs, Fd.cs, Spot.cs]; rfl); (first | exact okT | exact okN | exact okE rfl)) | (apply gT; (exact rfl)) | (apply off; (exact rfl); (exact rfl)) | (apply calTo0; (exact rfl); (iterate 2 (simp only [go_sem, ↓reduceIte, Nat.reduceEqDiff, Nat.reduceBEq, Nat.reduceAdd, Nat.reduceLeDiff, Nat.reduceMul, Nat.reduceLT, Int.reduceToNat, reduceCtorEq, Int.reduceBEq, Int.reduceBNe, Int.reduceLT, Int.reduceLE, Int.reduceGT, Int.reduceGE, hs, Fd.cs, Spot.cs]; rfl)); (first | exact cells_ok _ s f hf cs t es hs); (first | exact okT | exact okN | exact okE rfl)) | refine thenQ_n ?_ | refine thenQ_r ?_ | refine thenQ_e ?_ | refine blockQ_n ?_ | refine blockQ_r ?_ | refine blockQ_e ?_ | (apply blockQ_o; (exact rfl)) | refine Awp.seq ?_ | refine Awp.skip ?_ | refine Awp.block ?_ | refine reg (fun s => false) ?_ | (apply drwE mixed (fun s => false); (kernel_rfl)) | refine fin ?_ | (apply condT; (exact rfl)) | (apply condF; (exact rfl)) | refine Awp.ret ?_ | refine Awp.exit ?_ | ((first | apply bodyQ_d0 | apply bodyQ_d1 | apply bodyQ_d2 | apply bodyQ_d3 | apply bodyQ_d4); (exact .inr rfl); (rw [Try.results61]; simp only [go_sem, ↓reduceIte, Nat.reduceEqDiff, Nat.reduceBEq, Nat.reduceAdd, Nat.reduceLeDiff, Nat.reduceMul, Nat.reduceLT, Int.reduceToNat, reduceCtorEq, Int.reduceBEq, Int.reduceBNe, Int.reduceLT, Int.reduceLE, Int.reduceGT, Int.reduceGE, hs, Fd.cs, Spot.cs]; rfl); (first | (show Bel _ _; (focus first | exact .val _ | (simp [oneOf, Bel_iff_tup, Bel_iff_agg, Bel_iff_rsl, Bel_val]; done))) | (fail_if_success (show Bel _ _)))) | ((first | apply gT | apply condT); (focus (simp only [go_sem, ↓reduceIte, Nat.reduceEqDiff, Nat.reduceBEq, Nat.reduceAdd, Nat.reduceLeDiff, Nat.reduceMul, Nat.reduceLT, Int.reduceToNat, reduceCtorEq, Int.reduceBEq, Int.reduceBNe, Int.reduceLT, Int.reduceLE, Int.reduceGT, Int.reduceGE, hs, Fd.cs, Spot.cs] <;> rfl))) | ((first | (apply off; (exact rfl)) | apply condF); (focus (simp only [go_sem, ↓reduceIte, Nat.reduceEqDiff, Nat.reduceBEq, Nat.reduceAdd, Nat.reduceLeDiff, Nat.reduceMul, Nat.reduceLT, Int.reduceToNat, reduceCtorEq, Int.reduceBEq, Int.reduceBNe, Int.reduceLT, Int.reduceLE, Int.reduceGT, Int.reduceGE, hs, Fd.cs, Spot.cs] <;> rfl))))
  obtain ⟨h1, h2, h3, h4⟩ := hx
  have hc := hf.cells
  have := mul_in (B := 64) h1 (show x.m ≤ 8 by have := hf.2.2.2.2.2.1; omega) (show 0 ≤ f.cells by omega) hc.2
  rw [w64 (x := x.m * f.cells) (by omega) (by omega), w64 (by omega) (by omega)]
  rfl

theorem rcells_ok (H : Hp) (f : Fd) (hf : f.ok) : CallsTo Try.prog 52 [.agg f.cs] H (iv f.cells) H := by
  refine ACalls.of_body Try.func52 rfl (by kernel_rfl) (by rw [Try.ntmps52]; simp) ?_; rw [Try.ntmps52]
  repeat' (first | refine spD (fun _ => ?_) (fun _ => ?_) | refine spF (fun _ => ?_) (fun _ => ?_) | ((first | (apply stp0; (exact rfl); (exact rfl)) | (apply stpN0; (exact rfl))); (simp only [go_sem, ↓reduceIte, Nat.reduceEqDiff, Nat.reduceBEq, Nat.reduceAdd, Nat.reduceLeDiff, Nat.reduceMul, Nat.reduceLT, Int.reduceToNat, reduceCtorEq, Int.reduceBEq, Int.reduceBNe, Int.reduceLT, Int.reduceLE, Int.reduceGT, Int.reduceGE, Fd.cs]; rfl); (first | exact okT | exact okN | exact okE rfl)) | (apply gT; (exact rfl)) | (apply off; (exact rfl); (exact rfl)) | refine thenQ_n ?_ | refine thenQ_r ?_ | refine thenQ_e ?_ | refine blockQ_n ?_ | refine blockQ_r ?_ | refine blockQ_e ?_ | (apply blockQ_o; (exact rfl)) | refine Awp.seq ?_ | refine Awp.skip ?_ | refine Awp.block ?_ | refine reg (fun s => false) ?_ | (apply drwE mixed (fun s => false); (kernel_rfl)) | refine fin ?_ | (apply condT; (exact rfl)) | (apply condF; (exact rfl)) | refine Awp.ret ?_ | refine Awp.exit ?_ | ((first | apply bodyQ_d0 | apply bodyQ_d1 | apply bodyQ_d2 | apply bodyQ_d3 | apply bodyQ_d4); (exact .inr rfl); (rw [Try.results52]; simp only [go_sem, ↓reduceIte, Nat.reduceEqDiff, Nat.reduceBEq, Nat.reduceAdd, Nat.reduceLeDiff, Nat.reduceMul, Nat.reduceLT, Int.reduceToNat, reduceCtorEq, Int.reduceBEq, Int.reduceBNe, Int.reduceLT, Int.reduceLE, Int.reduceGT, Int.reduceGE, Fd.cs]; rfl); (first | (show Bel _ _; (focus first | exact .val _ | (simp [oneOf, Bel_iff_tup, Bel_iff_agg, Bel_iff_rsl, Bel_val]; done))) | (fail_if_success (show Bel _ _)))) | ((first | apply gT | apply condT); (focus (simp only [go_sem, ↓reduceIte, Nat.reduceEqDiff, Nat.reduceBEq, Nat.reduceAdd, Nat.reduceLeDiff, Nat.reduceMul, Nat.reduceLT, Int.reduceToNat, reduceCtorEq, Int.reduceBEq, Int.reduceBNe, Int.reduceLT, Int.reduceLE, Int.reduceGT, Int.reduceGE, Fd.cs] <;> rfl))) | ((first | (apply off; (exact rfl)) | apply condF); (focus (simp only [go_sem, ↓reduceIte, Nat.reduceEqDiff, Nat.reduceBEq, Nat.reduceAdd, Nat.reduceLeDiff, Nat.reduceMul, Nat.reduceLT, Int.reduceToNat, reduceCtorEq, Int.reduceBEq, Int.reduceBNe, Int.reduceLT, Int.reduceLE, Int.reduceGT, Int.reduceGE, Fd.cs] <;> rfl))))
  simp [oneOf, hf.wrapCells]

theorem rspot_ok (H : Hp) (f : Fd) (hf : f.ok) (x : Spot) : CallsTo Try.prog 46 [.agg f.cs, .agg x.cs] H (bv (decide (f.has x))) H := by
  refine ACalls.of_body Try.func46 rfl (by kernel_rfl) (by rw [Try.ntmps46]; simp) ?_; rw [Try.ntmps46]
  repeat' (first | refine spD (fun _ => ?_) (fun _ => ?_) | refine spF (fun _ => ?_) (fun _ => ?_) | ((first | (apply stp0; (exact rfl); (exact rfl)) | (apply stpN0; (exact rfl))); (simp only [go_sem, ↓reduceIte, Nat.reduceEqDiff, Nat.reduceBEq, Nat.reduceAdd, Nat.reduceLeDiff, Nat.reduceMul, Nat.reduceLT, Int.reduceToNat, reduceCtorEq, Int.reduceBEq, Int.reduceBNe, Int.reduceLT, Int.reduceLE, Int.reduceGT, Int.reduceGE, Fd.cs, Spot.cs]; rfl); (first | exact okT | exact okN | exact okE rfl)) | (apply gT; (exact rfl)) | (apply off; (exact rfl); (exact rfl)) | (apply calTo0; (exact rfl); (iterate 2 (simp only [go_sem, ↓reduceIte, Nat.reduceEqDiff, Nat.reduceBEq, Nat.reduceAdd, Nat.reduceLeDiff, Nat.reduceMul, Nat.reduceLT, Int.reduceToNat, reduceCtorEq, Int.reduceBEq, Int.reduceBNe, Int.reduceLT, Int.reduceLE, Int.reduceGT, Int.reduceGE, Fd.cs, Spot.cs]; rfl)); (first | exact rcells_ok _ f hf); (first | exact okT | exact okN | exact okE rfl)) | refine thenQ_n ?_ | refine thenQ_r ?_ | refine thenQ_e ?_ | refine blockQ_n ?_ | refine blockQ_r ?_ | refine blockQ_e ?_ | (apply blockQ_o; (exact rfl)) | refine Awp.seq ?_ | refine Awp.skip ?_ | refine Awp.block ?_ | refine reg (fun s => false) ?_ | (apply drwE mixed (fun s => false); (kernel_rfl)) | refine fin ?_ | (apply condT; (exact rfl)) | (apply condF; (exact rfl)) | refine Awp.ret ?_ | refine Awp.exit ?_ | ((first | apply bodyQ_d0 | apply bodyQ_d1 | apply bodyQ_d2 | apply bodyQ_d3 | apply bodyQ_d4); (exact .inr rfl); (rw [Try.results46]; simp only [go_sem, ↓reduceIte, Nat.reduceEqDiff, Nat.reduceBEq, Nat.reduceAdd, Nat.reduceLeDiff, Nat.reduceMul, Nat.reduceLT, Int.reduceToNat, reduceCtorEq, Int.reduceBEq, Int.reduceBNe, Int.reduceLT, Int.reduceLE, Int.reduceGT, Int.reduceGE, Fd.cs, Spot.cs]; rfl); (first | (show Bel _ _; (focus first | exact .val _ | (simp [oneOf, Bel_iff_tup, Bel_iff_agg, Bel_iff_rsl, Bel_val]; done))) | (fail_if_success (show Bel _ _)))) | ((first | apply gT | apply condT); (focus (simp only [go_sem, ↓reduceIte, Nat.reduceEqDiff, Nat.reduceBEq, Nat.reduceAdd, Nat.reduceLeDiff, Nat.reduceMul, Nat.reduceLT, Int.reduceToNat, reduceCtorEq, Int.reduceBEq, Int.reduceBNe, Int.reduceLT, Int.reduceLE, Int.reduceGT, Int.reduceGE, Fd.cs, Spot.cs] <;> rfl))) | ((first | (apply off; (exact rfl)) | apply condF); (focus (simp only [go_sem, ↓reduceIte, Nat.reduceEqDiff, Nat.reduceBEq, Nat.reduceAdd, Nat.reduceLeDiff, Nat.reduceMul, Nat.reduceLT, Int.reduceToNat, reduceCtorEq, Int.reduceBEq, Int.reduceBNe, Int.reduceLT, Int.reduceLE, Int.reduceGT, Int.reduceGE, Fd.cs, Spot.cs] <;> rfl))))
  all_goals simp only [oneOf, bv, AV.val.injEq, Value.bool.injEq]
  all_goals symm
  all_goals first | (rw [decide_eq_true_eq]; exact ⟨by omega, by omega, by omega, by omega⟩) | (rw [decide_eq_false_iff_not]; rintro ⟨_, _, _, _⟩; omega)

theorem rspots_ok (H : Hp) (f : Fd) (hf : f.ok) : CallsTo Try.prog 19 [.agg f.cs] H (iv ((f.last + 1) * f.cells)) H := by
  refine ACalls.of_body Try.func19 rfl (by kernel_rfl) (by rw [Try.ntmps19]; simp) ?_; rw [Try.ntmps19]
  repeat' (first | refine spD (fun _ => ?_) (fun _ => ?_) | refine spF (fun _ => ?_) (fun _ => ?_) | ((first | (apply stp0; (exact rfl); (exact rfl)) | (apply stpN0; (exact rfl))); (simp only [go_sem, ↓reduceIte, Nat.reduceEqDiff, Nat.reduceBEq, Nat.reduceAdd, Nat.reduceLeDiff, Nat.reduceMul, Nat.reduceLT, Int.reduceToNat, reduceCtorEq, Int.reduceBEq, Int.reduceBNe, Int.reduceLT, Int.reduceLE, Int.reduceGT, Int.reduceGE, Fd.cs]; rfl); (first | exact okT | exact okN | exact okE rfl)) | (apply gT; (exact rfl)) | (apply off; (exact rfl); (exact rfl)) | (apply calTo0; (exact rfl); (iterate 2 (simp only [go_sem, ↓reduceIte, Nat.reduceEqDiff, Nat.reduceBEq, Nat.reduceAdd, Nat.reduceLeDiff, Nat.reduceMul, Nat.reduceLT, Int.reduceToNat, reduceCtorEq, Int.reduceBEq, Int.reduceBNe, Int.reduceLT, Int.reduceLE, Int.reduceGT, Int.reduceGE, Fd.cs]; rfl)); (first | exact rcells_ok _ f hf); (first | exact okT | exact okN | exact okE rfl)) | refine thenQ_n ?_ | refine thenQ_r ?_ | refine thenQ_e ?_ | refine blockQ_n ?_ | refine blockQ_r ?_ | refine blockQ_e ?_ | (apply blockQ_o; (exact rfl)) | refine Awp.seq ?_ | refine Awp.skip ?_ | refine Awp.block ?_ | refine reg (fun s => false) ?_ | (apply drwE mixed (fun s => false); (kernel_rfl)) | refine fin ?_ | (apply condT; (exact rfl)) | (apply condF; (exact rfl)) | refine Awp.ret ?_ | refine Awp.exit ?_ | ((first | apply bodyQ_d0 | apply bodyQ_d1 | apply bodyQ_d2 | apply bodyQ_d3 | apply bodyQ_d4); (exact .inr rfl); (rw [Try.results19]; simp only [go_sem, ↓reduceIte, Nat.reduceEqDiff, Nat.reduceBEq, Nat.reduceAdd, Nat.reduceLeDiff, Nat.reduceMul, Nat.reduceLT, Int.reduceToNat, reduceCtorEq, Int.reduceBEq, Int.reduceBNe, Int.reduceLT, Int.reduceLE, Int.reduceGT, Int.reduceGE, Fd.cs]; rfl); (first | (show Bel _ _; (focus first | exact .val _ | (simp [oneOf, Bel_iff_tup, Bel_iff_agg, Bel_iff_rsl, Bel_val]; done))) | (fail_if_success (show Bel _ _)))) | ((first | apply gT | apply condT); (focus (simp only [go_sem, ↓reduceIte, Nat.reduceEqDiff, Nat.reduceBEq, Nat.reduceAdd, Nat.reduceLeDiff, Nat.reduceMul, Nat.reduceLT, Int.reduceToNat, reduceCtorEq, Int.reduceBEq, Int.reduceBNe, Int.reduceLT, Int.reduceLE, Int.reduceGT, Int.reduceGE, Fd.cs] <;> rfl))) | ((first | (apply off; (exact rfl)) | apply condF); (focus (simp only [go_sem, ↓reduceIte, Nat.reduceEqDiff, Nat.reduceBEq, Nat.reduceAdd, Nat.reduceLeDiff, Nat.reduceMul, Nat.reduceLT, Int.reduceToNat, reduceCtorEq, Int.reduceBEq, Int.reduceBNe, Int.reduceLT, Int.reduceLE, Int.reduceGT, Int.reduceGE, Fd.cs] <;> rfl))))
  have hc := hf.cells
  obtain ⟨h1, h2, h3, h4, h5, h6, _⟩ := hf
  have := mul_in (a := f.last + 1) (A := 8) (B := 64) (by omega) (by omega) (show 0 ≤ f.cells by omega) hc.2
  rw [w64 (x := f.last + 1) (by omega) (by omega), w64 (by omega) (by omega)]
  rfl

theorem abs_ok (H : Hp) (x : Int) (h1 : -1000000 ≤ x) (h2 : x ≤ 1000000) : CallsTo Try.prog 90 [iv x] H (iv (absZ x)) H := by
  refine ACalls.of_body Try.func90 rfl (by kernel_rfl) (by rw [Try.ntmps90]; simp) ?_; rw [Try.ntmps90]
  repeat' (first | refine spD (fun _ => ?_) (fun _ => ?_) | refine spF (fun _ => ?_) (fun _ => ?_) | ((first | (apply stp0; (exact rfl); (exact rfl)) | (apply stpN0; (exact rfl))); (simp only [go_sem, ↓reduceIte, Nat.reduceEqDiff, Nat.reduceBEq, Nat.reduceAdd, Nat.reduceLeDiff, Nat.reduceMul, Nat.reduceLT, Int.reduceToNat, reduceCtorEq, Int.reduceBEq, Int.reduceBNe, Int.reduceLT, Int.reduceLE, Int.reduceGT, Int.reduceGE]; rfl); (first | exact okT | exact okN | exact okE rfl)) | (apply gT; (exact rfl)) | (apply off; (exact rfl); (exact rfl)) | refine thenQ_n ?_ | refine thenQ_r ?_ | refine thenQ_e ?_ | refine blockQ_n ?_ | refine blockQ_r ?_ | refine blockQ_e ?_ | (apply blockQ_o; (exact rfl)) | refine Awp.seq ?_ | refine Awp.skip ?_ | refine Awp.block ?_ | refine reg (fun s => false) ?_ | (apply drwE mixed (fun s => false); (kernel_rfl)) | refine fin ?_ | (apply condT; (exact rfl)) | (apply condF; (exact rfl)) | refine Awp.ret ?_ | refine Awp.exit ?_ | ((first | apply bodyQ_d0 | apply bodyQ_d1 | apply bodyQ_d2 | apply bodyQ_d3 | apply bodyQ_d4); (exact .inr rfl); (rw [Try.results90]; simp only [go_sem, ↓reduceIte, Nat.reduceEqDiff, Nat.reduceBEq, Nat.reduceAdd, Nat.reduceLeDiff, Nat.reduceMul, Nat.reduceLT, Int.reduceToNat, reduceCtorEq, Int.reduceBEq, Int.reduceBNe, Int.reduceLT, Int.reduceLE, Int.reduceGT, Int.reduceGE]; rfl); (first | (show Bel _ _; (focus first | exact .val _ | (simp [oneOf, Bel_iff_tup, Bel_iff_agg, Bel_iff_rsl, Bel_val]; done))) | (fail_if_success (show Bel _ _)))) | ((first | apply gT | apply condT); (focus (simp only [go_sem, ↓reduceIte, Nat.reduceEqDiff, Nat.reduceBEq, Nat.reduceAdd, Nat.reduceLeDiff, Nat.reduceMul, Nat.reduceLT, Int.reduceToNat, reduceCtorEq, Int.reduceBEq, Int.reduceBNe, Int.reduceLT, Int.reduceLE, Int.reduceGT, Int.reduceGE] <;> rfl))) | ((first | (apply off; (exact rfl)) | apply condF); (focus (simp only [go_sem, ↓reduceIte, Nat.reduceEqDiff, Nat.reduceBEq, Nat.reduceAdd, Nat.reduceLeDiff, Nat.reduceMul, Nat.reduceLT, Int.reduceToNat, reduceCtorEq, Int.reduceBEq, Int.reduceBNe, Int.reduceLT, Int.reduceLE, Int.reduceGT, Int.reduceGE] <;> rfl))))
  rw [w64 (by omega) (by omega)]
  simp [oneOf, absZ]

theorem Fd.has.small {f : Fd} (hf : f.ok) {a : Spot} (h : f.has a) : 0 ≤ a.m ∧ a.m < 8 ∧ 0 ≤ a.c ∧ a.c < 64 ∧ 0 ≤ a.c.tmod f.w ∧ a.c.tmod f.w < 64 ∧ 0 ≤ a.c.tdiv f.w ∧ a.c.tdiv f.w < 64 := by
  have hc := hf.cells
  obtain ⟨h1, h2, h3, h4⟩ := h
  obtain ⟨k1, k2, k3, k4, k5, k6, _⟩ := hf
  have e1 : a.c.tmod f.w = a.c % f.w := Int.tmod_eq_emod_of_nonneg h3
  have e2 : a.c.tdiv f.w = a.c / f.w := Int.tdiv_eq_ediv_of_nonneg h3
  have q1 := Int.emod_nonneg a.c (show f.w ≠ 0 by omega)
  have q2 := Int.emod_lt_of_pos a.c (show 0 < f.w by omega)
  have q3 := Int.ediv_nonneg h3 (show 0 ≤ f.w by omega)
  have q4 := Int.ediv_le_self f.w h3
  refine ⟨h1, by omega, h3, by omega, by rw [e1]; exact q1, by rw [e1]; omega, by rw [e2]; exact q3, by rw [e2]; omega⟩

theorem absZ_le {x A : Int} (h1 : -A ≤ x) (h2 : x ≤ A) : 0 ≤ absZ x ∧ absZ x ≤ A := by unfold absZ; omega

theorem Fd.away_in {f : Fd} (hf : f.ok) {a b : Spot} (ha : f.has a) (hb : f.has b) :
    0 ≤ f.sp * (absZ (a.c.tmod f.w - b.c.tmod f.w) + absZ (a.c.tdiv f.w - b.c.tdiv f.w)) ∧ f.sp * (absZ (a.c.tmod f.w - b.c.tmod f.w) + absZ (a.c.tdiv f.w - b.c.tdiv f.w)) ≤ 134217728 ∧
    0 ≤ f.ch * absZ (a.m - b.m) ∧ f.ch * absZ (a.m - b.m) ≤ 8388608 ∧ 0 ≤ f.away a b ∧ f.away a b ≤ 142606336 := by
  have sa := ha.small hf
  have sb := hb.small hf
  obtain ⟨k1, k2, k3, k4, k5, k6, k7, k8, k9, k10, _⟩ := hf
  have x1 := absZ_le (x := a.c.tmod f.w - b.c.tmod f.w) (A := 64) (by omega) (by omega)
  have x2 := absZ_le (x := a.c.tdiv f.w - b.c.tdiv f.w) (A := 64) (by omega) (by omega)
  have x3 := absZ_le (x := a.m - b.m) (A := 8) (by omega) (by omega)
  have m1 := mul_in (B := 128) k7 k8 (show 0 ≤ absZ (a.c.tmod f.w - b.c.tmod f.w) + absZ (a.c.tdiv f.w - b.c.tdiv f.w) by omega) (by omega)
  have m2 := mul_in k9 k10 x3.1 x3.2
  unfold Fd.away
  omega

theorem wrap_neg {x : Int} (h1 : -1000000 ≤ x) (h2 : x ≤ 1000000) : IntKind.i64.wrap (0 - x) = -x := by rw [w64 (by omega) (by omega)]; omega

theorem away_ok (H : Hp) (s : Nat) (f : Fd) (hf : f.ok) (cs : List AV) (t : TypeId) (es : List (List AV)) (hs : H[s]? = some (.cells ((f.cs ++ cs) :: es) t)) (a b : Spot) (ha : f.has a) (hb : f.has b) :
    CallsTo Try.prog 64 [.mptr s 0 0, .agg a.cs, .agg b.cs] H (iv (f.away a b)) H := by
  have hw : f.w ≠ 0 := by have := hf.1; omega
  refine ACalls.of_body Try.func64 rfl (by kernel_rfl) (by rw [Try.ntmps64]; simp) ?_; rw [Try.ntmps64]
  repeat' (first | refine spD (fun _ => ?_) (fun _ => ?_) | refine spF (fun _ => ?_) (fun _ => ?_) | ((first | (apply stp0; (exact rfl); (exact rfl)) | (apply stpN0; (exact rfl))); (simp only [go_sem, ↓reduceIte, Nat.reduceEqDiff, Nat.reduceBEq, Nat.reduceAdd, Nat.reduceLeDiff, Nat.reduceMul, Nat.reduceLT, Int.reduceToNat, reduceCtorEq, Int.reduceBEq, Int.reduceBNe, Int.reduceLT, Int.reduceLE, Int.reduceGT, Int.reduceGE, hs, Fd.cs, Spot.cs, hw, ne_eq, not_false_eq_true]; rfl); (first | exact okT | exact okN | exact okE rfl)) | (apply gT; (exact rfl)) | (apply off; (exact rfl); (exact rfl)) | refine thenQ_n ?_ | refine thenQ_r ?_ | refine thenQ_e ?_ | refine blockQ_n ?_ | refine blockQ_r ?_ | refine blockQ_e ?_ | (apply blockQ_o; (exact rfl)) | refine Awp.seq ?_ | refine Awp.skip ?_ | refine Awp.block ?_ | refine reg (fun s => false) ?_ | (apply drwE mixed (fun s => false); (kernel_rfl)) | refine fin ?_ | (apply condT; (exact rfl)) | (apply condF; (exact rfl)) | refine Awp.ret ?_ | refine Awp.exit ?_ | ((first | apply bodyQ_d0 | apply bodyQ_d1 | apply bodyQ_d2 | apply bodyQ_d3 | apply bodyQ_d4); (exact .inr rfl); (rw [Try.results64]; simp only [go_sem, ↓reduceIte, Nat.reduceEqDiff, Nat.reduceBEq, Nat.reduceAdd, Nat.reduceLeDiff, Nat.reduceMul, Nat.reduceLT, Int.reduceToNat, reduceCtorEq, Int.reduceBEq, Int.reduceBNe, Int.reduceLT, Int.reduceLE, Int.reduceGT, Int.reduceGE, hs, Fd.cs, Spot.cs, hw, ne_eq, not_false_eq_true]; rfl); (first | (show Bel _ _; (focus first | exact .val _ | (simp [oneOf, Bel_iff_tup, Bel_iff_agg, Bel_iff_rsl, Bel_val]; done))) | (fail_if_success (show Bel _ _)))) | ((first | apply gT | apply condT); (focus (simp only [go_sem, ↓reduceIte, Nat.reduceEqDiff, Nat.reduceBEq, Nat.reduceAdd, Nat.reduceLeDiff, Nat.reduceMul, Nat.reduceLT, Int.reduceToNat, reduceCtorEq, Int.reduceBEq, Int.reduceBNe, Int.reduceLT, Int.reduceLE, Int.reduceGT, Int.reduceGE, hs, Fd.cs, Spot.cs, hw, ne_eq, not_false_eq_true] <;> rfl))) | ((first | (apply off; (exact rfl)) | apply condF); (focus (simp only [go_sem, ↓reduceIte, Nat.reduceEqDiff, Nat.reduceBEq, Nat.reduceAdd, Nat.reduceLeDiff, Nat.reduceMul, Nat.reduceLT, Int.reduceToNat, reduceCtorEq, Int.reduceBEq, Int.reduceBNe, Int.reduceLT, Int.reduceLE, Int.reduceGT, Int.reduceGE, hs, Fd.cs, Spot.cs, hw, ne_eq, not_false_eq_true] <;> rfl))))
  have sa := ha.small hf
  have sb := hb.small hf
  have m := Fd.away_in hf ha hb
  have x1 := absZ_le (x := a.c.tmod f.w - b.c.tmod f.w) (A := 64) (by omega) (by omega)
  have x2 := absZ_le (x := a.c.tdiv f.w - b.c.tdiv f.w) (A := 64) (by omega) (by omega)
  unfold absZ at m x1 x2
  rw [w64 (x := a.c.tdiv f.w) (by omega) (by omega), w64 (x := b.c.tdiv f.w) (by omega) (by omega), w64 (x := a.c.tdiv f.w - b.c.tdiv f.w) (by omega) (by omega), w64 (x := a.c.tmod f.w - b.c.tmod f.w) (by omega) (by omega),
    w64 (x := a.m - b.m) (by omega) (by omega), wrap_neg (by omega) (by omega), wrap_neg (by omega) (by omega), wrap_neg (by omega) (by omega), w64 (x := _ + max _ _) (by omega) (by omega), w64 (x := f.sp * _) (by omega) (by omega), w64 (x := f.ch * _) (by omega) (by omega), w64 (by omega) (by omega)]
  rfl

theorem raway_ok (H : Hp) (f : Fd) (hf : f.ok) (a b : Spot) (ha : f.has a) (hb : f.has b) :
    CallsTo Try.prog 65 [.agg f.cs, .agg a.cs, .agg b.cs] H (iv (f.away a b)) H := by
  have hw : f.w ≠ 0 := by have := hf.1; omega
  have sa := ha.small hf
  have sb := hb.small hf
  have m := Fd.away_in hf ha hb
  have x1 := absZ_le (x := a.c.tmod f.w - b.c.tmod f.w) (A := 64) (by omega) (by omega)
  have x2 := absZ_le (x := a.c.tdiv f.w - b.c.tdiv f.w) (A := 64) (by omega) (by omega)
  have w1 := w64 (x := a.c.tdiv f.w) (by omega) (by omega)
  have w2 := w64 (x := b.c.tdiv f.w) (by omega) (by omega)
  have w3 := w64 (x := a.c.tdiv f.w - b.c.tdiv f.w) (by omega) (by omega)
  have w4 := w64 (x := a.c.tmod f.w - b.c.tmod f.w) (by omega) (by omega)
  have w5 := w64 (x := a.m - b.m) (by omega) (by omega)
  refine ACalls.of_body Try.func65 rfl (by kernel_rfl) (by rw [Try.ntmps65]; simp) ?_; rw [Try.ntmps65]
  repeat' (first | refine spD (fun _ => ?_) (fun _ => ?_) | refine spF (fun _ => ?_) (fun _ => ?_) | ((first | (apply stp0; (exact rfl); (exact rfl)) | (apply stpN0; (exact rfl))); (simp only [go_sem, ↓reduceIte, Nat.reduceEqDiff, Nat.reduceBEq, Nat.reduceAdd, Nat.reduceLeDiff, Nat.reduceMul, Nat.reduceLT, Int.reduceToNat, reduceCtorEq, Int.reduceBEq, Int.reduceBNe, Int.reduceLT, Int.reduceLE, Int.reduceGT, Int.reduceGE, Fd.cs, Spot.cs, hw, ne_eq, not_false_eq_true, w1, w2, w3, w4, w5]; rfl); (first | exact okT | exact okN | exact okE rfl)) | (apply gT; (exact rfl)) | (apply off; (exact rfl); (exact rfl)) | (apply calTo0; (exact rfl); (iterate 2 (simp only [go_sem, ↓reduceIte, Nat.reduceEqDiff, Nat.reduceBEq, Nat.reduceAdd, Nat.reduceLeDiff, Nat.reduceMul, Nat.reduceLT, Int.reduceToNat, reduceCtorEq, Int.reduceBEq, Int.reduceBNe, Int.reduceLT, Int.reduceLE, Int.reduceGT, Int.reduceGE, Fd.cs, Spot.cs, hw, ne_eq, not_false_eq_true, w1, w2, w3, w4, w5]; rfl)); (first | exact abs_ok _ _ (by omega) (by omega)); (first | exact okT | exact okN | exact okE rfl)) | refine thenQ_n ?_ | refine thenQ_r ?_ | refine thenQ_e ?_ | refine blockQ_n ?_ | refine blockQ_r ?_ | refine blockQ_e ?_ | (apply blockQ_o; (exact rfl)) | refine Awp.seq ?_ | refine Awp.skip ?_ | refine Awp.block ?_ | refine reg (fun s => false) ?_ | (apply drwE mixed (fun s => false); (kernel_rfl)) | refine fin ?_ | (apply condT; (exact rfl)) | (apply condF; (exact rfl)) | refine Awp.ret ?_ | refine Awp.exit ?_ | ((first | apply bodyQ_d0 | apply bodyQ_d1 | apply bodyQ_d2 | apply bodyQ_d3 | apply bodyQ_d4); (exact .inr rfl); (rw [Try.results65]; simp only [go_sem, ↓reduceIte, Nat.reduceEqDiff, Nat.reduceBEq, Nat.reduceAdd, Nat.reduceLeDiff, Nat.reduceMul, Nat.reduceLT, Int.reduceToNat, reduceCtorEq, Int.reduceBEq, Int.reduceBNe, Int.reduceLT, Int.reduceLE, Int.reduceGT, Int.reduceGE, Fd.cs, Spot.cs, hw, ne_eq, not_false_eq_true, w1, w2, w3, w4, w5]; rfl); (first | (show Bel _ _; (focus first | exact .val _ | (simp [oneOf, Bel_iff_tup, Bel_iff_agg, Bel_iff_rsl, Bel_val]; done))) | (fail_if_success (show Bel _ _)))) | ((first | apply gT | apply condT); (focus (simp only [go_sem, ↓reduceIte, Nat.reduceEqDiff, Nat.reduceBEq, Nat.reduceAdd, Nat.reduceLeDiff, Nat.reduceMul, Nat.reduceLT, Int.reduceToNat, reduceCtorEq, Int.reduceBEq, Int.reduceBNe, Int.reduceLT, Int.reduceLE, Int.reduceGT, Int.reduceGE, Fd.cs, Spot.cs, hw, ne_eq, not_false_eq_true, w1, w2, w3, w4, w5] <;> rfl))) | ((first | (apply off; (exact rfl)) | apply condF); (focus (simp only [go_sem, ↓reduceIte, Nat.reduceEqDiff, Nat.reduceBEq, Nat.reduceAdd, Nat.reduceLeDiff, Nat.reduceMul, Nat.reduceLT, Int.reduceToNat, reduceCtorEq, Int.reduceBEq, Int.reduceBNe, Int.reduceLT, Int.reduceLE, Int.reduceGT, Int.reduceGE, Fd.cs, Spot.cs, hw, ne_eq, not_false_eq_true, w1, w2, w3, w4, w5] <;> rfl))))
  rw [w64 (x := _ + absZ _) (by omega) (by omega), w64 (x := f.sp * _) (by omega) (by omega), w64 (x := f.ch * _) (by omega) (by omega), w64 (by unfold absZ at *; omega) (by unfold absZ at *; omega)]
  rfl

end Go.Proofs.Ytehagceghnjamaa.Ab
