/- Cables: a measurement of a known distance. -/
import Derived.Test.YtphfdbmbdaninaaU6
import Derived.Test.YtphfdbmbdaninaaWJ
namespace Go.Proofs.Ytphfdbmbdaninaa.Ab
open Go Go.RowKit Go.Proofs
set_option linter.unusedSimpArgs false
set_option linter.unusedVariables false
attribute [local irreducible] Awp wpO thenQ blockQ bodyQ ACalls stepA

structure Pb where
  kind : Int
  by' : Int
  e0 : Int
  e1 : Int
  e2 : Int
  e3 : Int
def Pb.cs (q : Pb) : List AV := [.val (.int .u8 q.kind), .val (.int .u16 q.by'), .val (.int .u16 q.e0), .val (.int .u16 q.e1), .val (.int .u16 q.e2), .val (.int .u16 q.e3)]
def Pb.ok (q : Pb) : Prop := (0 ≤ q.kind ∧ q.kind ≤ 255) ∧ (0 ≤ q.by' ∧ q.by' ≤ 65535) ∧ (0 ≤ q.e0 ∧ q.e0 ≤ 65535) ∧ (0 ≤ q.e1 ∧ q.e1 ≤ 65535) ∧ (0 ≤ q.e2 ∧ q.e2 ≤ 65535) ∧ (0 ≤ q.e3 ∧ q.e3 ≤ 65535)
def Pb.K (q : Pb) : Int := 1 + q.kind.tmod 3
def Pb.by (q : Pb) (m : Int) : Int := if q.K = 1 then 1000 * (1 + q.by'.tmod 16) else if q.K = 2 then 100 * (1 + q.by'.tmod 2) else m + q.by'
def Pb.val (q : Pb) (m : Int) : Int := if q.K = 1 then (m * q.by m).tdiv 1000 else if q.K = 2 then (m * 2000000).tdiv (q.by m) else q.by m - m
def Pb.least (q : Pb) : Int := if q.K = 1 then 1 else if q.K = 2 then 1 else 0
def Pb.ms (q : Pb) (m : Int) : Ms := ⟨q.K, ⟨max 0 (q.val m - q.e0), q.val m + q.e1⟩, ⟨max q.least (q.by m - q.e2), q.by m + q.e3⟩⟩

theorem Pb.K_in {q : Pb} (h : q.ok) : q.K = 1 ∨ q.K = 2 ∨ q.K = 3 := by
  unfold Pb.ok at h
  unfold Pb.K
  have := Int.tmod_eq_emod_of_nonneg (a := q.kind) (b := 3) (by omega)
  omega

theorem bd132 (a b c d : Int) : buildA Try.prog 132 [(0, iv a), (1, iv b), (2, iv c), (3, iv d)] = some (.agg [iv a, iv b, iv c, iv d]) := by kernel_rfl

set_option maxRecDepth 8000 in
set_option maxHeartbeats 4000000 in
theorem probe_ok (H : Hp) (q : Pb) (h : q.ok) (m : Int) (h0 : 0 ≤ m) (h1 : m ≤ 1000) : CallsTo Try.prog 59 [.agg q.cs, iv m] H (.agg (q.ms m).cs) H := by
  have hK := Pb.K_in h
  obtain ⟨a1, a2, a3, a4, a5, a6⟩ := h
  have c1 : IntKind.i64.wrap q.kind = q.kind := w64 (by omega) (by omega)
  have c2 : IntKind.i64.wrap q.by' = q.by' := w64 (by omega) (by omega)
  have c3 : IntKind.i64.wrap q.e0 = q.e0 := w64 (by omega) (by omega)
  have c4 : IntKind.i64.wrap q.e1 = q.e1 := w64 (by omega) (by omega)
  have c5 : IntKind.i64.wrap q.e2 = q.e2 := w64 (by omega) (by omega)
  have c6 : IntKind.i64.wrap q.e3 = q.e3 := w64 (by omega) (by omega)
  have b1 : IntKind.i64.wrap (1 + q.by') = 1 + q.by' := w64 (by omega) (by omega)
  have k1 : IntKind.i64.wrap (q.kind.tmod 3) = q.kind.tmod 3 := by
    unfold Pb.K at hK; exact w64 (by omega) (by omega)
  have k2 : IntKind.i64.wrap (1 + q.kind.tmod 3) = 1 + q.kind.tmod 3 := by
    unfold Pb.K at hK; exact w64 (by omega) (by omega)
  have t16 := Int.tmod_eq_emod_of_nonneg (a := q.by') (b := 16) (by omega)
  have t2 := Int.tmod_eq_emod_of_nonneg (a := q.by') (b := 2) (by omega)
  have hby0 : 0 ≤ q.by m ∧ q.by m ≤ 100000 := by
    unfold Pb.by
    split
    · omega
    · split <;> omega
  have hvl0 : 0 ≤ q.val m ∧ q.val m ≤ 20000000 := by
    unfold Pb.val
    split
    · rename_i h
      have hby : q.by m = 1000 * (1 + q.by'.tmod 16) := if_pos h
      have m1 := mul_in (a := m) (b := q.by m) (A := 1000) (B := 16000) (by omega) (by omega) (by omega) (by omega)
      have d1 := div_in (n := m * q.by m) (d := 1000) (by omega) (by omega)
      omega
    · split
      · rename_i h1 h2
        have hby : q.by m = 100 * (1 + q.by'.tmod 2) := (if_neg h1).trans (if_pos h2)
        have e := Int.tdiv_eq_ediv_of_nonneg (a := m * 2000000) (b := q.by m) (by omega)
        have hb : q.by m = 100 ∨ q.by m = 200 := by omega
        rcases hb with hb | hb <;> rw [hb] at e ⊢ <;> omega
      · rename_i h1 h2
        have hby : q.by m = m + q.by' := (if_neg h1).trans (if_neg h2)
        omega
  have w6 : IntKind.i64.wrap (q.val m - q.e0) = q.val m - q.e0 := w64 (by omega) (by omega)
  have w7 : IntKind.i64.wrap (q.val m + q.e1) = q.val m + q.e1 := w64 (by omega) (by omega)
  have w8 : IntKind.i64.wrap (q.by m - q.e2) = q.by m - q.e2 := w64 (by omega) (by omega)
  have w9 : IntKind.i64.wrap (q.by m + q.e3) = q.by m + q.e3 := w64 (by omega) (by omega)
  have hKv : 1 + q.kind.tmod 3 = q.K := rfl
  have k3 : IntKind.i64.wrap q.K = q.K := w64 (by omega) (by omega)
  unfold Pb.ms
  refine ACalls.of_body Try.func59 rfl (by kernel_rfl) (by rw [Try.ntmps59]; simp) ?_; rw [Try.ntmps59]
  repeat' ((fail_if_success (apply stopR (id := 6))); (fail_if_success (apply stopS (id := 6))); first | refine spD (fun _ => ?_) (fun _ => ?_) | refine spF (fun _ => ?_) (fun _ => ?_) | (apply gT; (exact rfl)) | (apply off; (exact rfl); (exact rfl)) | (apply condT; (exact rfl)) | (apply condF; (exact rfl)) | ((first | (apply stp0; (exact rfl); (exact rfl)) | (apply stpN0; (exact rfl)) | apply gT | apply condT | ((first | apply bodyQ_d0 | apply bodyQ_d1 | apply bodyQ_d2 | apply bodyQ_d3 | apply bodyQ_d4); (exact .inr rfl); (rw [Try.results59]))); (first | (focus (simp only [go_sem, ↓reduceIte, Nat.reduceEqDiff, Nat.reduceBEq, Nat.reduceAdd, Nat.reduceLeDiff, Nat.reduceMul, Nat.reduceLT, Int.reduceToNat, reduceCtorEq, Int.reduceBEq, Int.reduceBNe, Int.reduceLT, Int.reduceLE, Int.reduceGT, Int.reduceGE, Pb.cs, c1, c2, c3, c4, c5, c6, b1, k1, k2, k3, hKv, bd132] <;> rfl)) | exact rfl); (first | (fail_if_success (show okD _ _ _ _ _ _ _ _ _)) | (first | exact okT | exact okN | exact okE rfl)); (first | (fail_if_success (show Bel _ _)) | (focus first | exact .val _ | (simp [oneOf, Bel_iff_tup, Bel_iff_agg, Bel_iff_rsl, Bel_iff_fn, Bel_iff_rptr, Bel_val]; done)))) | refine thenQ_n ?_ | refine thenQ_r ?_ | refine thenQ_e ?_ | refine blockQ_n ?_ | refine blockQ_r ?_ | refine blockQ_e ?_ | (apply blockQ_o; (exact rfl)) | refine Awp.seq ?_ | refine Awp.skip ?_ | refine Awp.block ?_ | refine reg (fun s => s == 4 || s == 6 || s == 7) ?_ | (apply drwE mixed (fun s => s == 4 || s == 6 || s == 7); (kernel_rfl)) | refine fin ?_ | refine Awp.ret ?_ | refine Awp.exit ?_ | ((first | (apply off; (exact rfl)) | apply condF); (first | (focus (simp only [go_sem, ↓reduceIte, Nat.reduceEqDiff, Nat.reduceBEq, Nat.reduceAdd, Nat.reduceLeDiff, Nat.reduceMul, Nat.reduceLT, Int.reduceToNat, reduceCtorEq, Int.reduceBEq, Int.reduceBNe, Int.reduceLT, Int.reduceLE, Int.reduceGT, Int.reduceGE, Pb.cs, c1, c2, c3, c4, c5, c6, b1, k1, k2, k3, hKv, bd132] <;> rfl)) | exact rfl)))
  have l1 : ∀ x : AObj, (H ++ [x]).length = H.length + 1 := fun x => by simp
  have l2 : ∀ x y : AObj, (H ++ [x] ++ [y]).length = H.length + 2 := fun x y => by simp
  have eB1 : (H ++ [AObj.cells [[iv 0, iv 0, iv 0, iv 0, iv 0]] 66] ++ [.cells [[iv q.K, iv 0, iv 0, iv 0, iv 0]] 66] ++ [.cells [[iv q.e0, iv q.e1, iv q.e2, iv q.e3]] 132])[H.length]? = some (AObj.cells [[iv 0, iv 0, iv 0, iv 0, iv 0]] 66) := by simp
  have eB2 : (H ++ [AObj.cells [[iv 0, iv 0, iv 0, iv 0, iv 0]] 66] ++ [.cells [[iv q.K, iv 0, iv 0, iv 0, iv 0]] 66] ++ [.cells [[iv q.e0, iv q.e1, iv q.e2, iv q.e3]] 132])[H.length + 1]? = some (.cells [[iv q.K, iv 0, iv 0, iv 0, iv 0]] 66) := by simp
  have eB3 : (H ++ [AObj.cells [[iv 0, iv 0, iv 0, iv 0, iv 0]] 66] ++ [.cells [[iv q.K, iv 0, iv 0, iv 0, iv 0]] 66] ++ [.cells [[iv q.e0, iv q.e1, iv q.e2, iv q.e3]] 132])[H.length + 2]? = some (.cells [[iv q.e0, iv q.e1, iv q.e2, iv q.e3]] 132) := by simp
  have hG := (((Grow.refl H).app [AObj.cells [[iv 0, iv 0, iv 0, iv 0, iv 0]] 66]).app [.cells [[iv q.K, iv 0, iv 0, iv 0, iv 0]] 66]).app [.cells [[iv q.e0, iv q.e1, iv q.e2, iv q.e3]] 132]
  refine Awp.withT (fun T' => T' 1 = iv m ∧ T' 2 = .rptr q.cs 0 ∧ T' 4 = .mptr H.length 0 0 ∧ T' 5 = iv (1 + q.by') ∧ T' 6 = .mptr (H.length + 1) 0 0 ∧ T' 7 = .mptr (H.length + 2) 0 0 ∧ T' 8 = iv 0 ∧ T' 9 = iv 1) ⟨?_, ?_, ?_, ?_, ?_, ?_, ?_, ?_⟩ ?_
  · (first | (focus (simp only [go_sem, ↓reduceIte, Nat.reduceEqDiff, Nat.reduceBEq, Nat.reduceAdd, Nat.reduceLeDiff, Nat.reduceMul, Nat.reduceLT, Int.reduceToNat, reduceCtorEq, Int.reduceBEq, Int.reduceBNe, Int.reduceLT, Int.reduceLE, Int.reduceGT, Int.reduceGE]; done)) | (focus (simp only [go_sem, ↓reduceIte, Nat.reduceEqDiff, Nat.reduceBEq, Nat.reduceAdd, Nat.reduceLeDiff, Nat.reduceMul, Nat.reduceLT, Int.reduceToNat, reduceCtorEq, Int.reduceBEq, Int.reduceBNe, Int.reduceLT, Int.reduceLE, Int.reduceGT, Int.reduceGE]; rfl)) | rfl)
  · (first | (focus (simp only [go_sem, ↓reduceIte, Nat.reduceEqDiff, Nat.reduceBEq, Nat.reduceAdd, Nat.reduceLeDiff, Nat.reduceMul, Nat.reduceLT, Int.reduceToNat, reduceCtorEq, Int.reduceBEq, Int.reduceBNe, Int.reduceLT, Int.reduceLE, Int.reduceGT, Int.reduceGE, Pb.cs]; done)) | (focus (simp only [go_sem, ↓reduceIte, Nat.reduceEqDiff, Nat.reduceBEq, Nat.reduceAdd, Nat.reduceLeDiff, Nat.reduceMul, Nat.reduceLT, Int.reduceToNat, reduceCtorEq, Int.reduceBEq, Int.reduceBNe, Int.reduceLT, Int.reduceLE, Int.reduceGT, Int.reduceGE, Pb.cs]; rfl)) | rfl)
  · (first | (focus (simp only [go_sem, ↓reduceIte, Nat.reduceEqDiff, Nat.reduceBEq, Nat.reduceAdd, Nat.reduceLeDiff, Nat.reduceMul, Nat.reduceLT, Int.reduceToNat, reduceCtorEq, Int.reduceBEq, Int.reduceBNe, Int.reduceLT, Int.reduceLE, Int.reduceGT, Int.reduceGE]; done)) | (focus (simp only [go_sem, ↓reduceIte, Nat.reduceEqDiff, Nat.reduceBEq, Nat.reduceAdd, Nat.reduceLeDiff, Nat.reduceMul, Nat.reduceLT, Int.reduceToNat, reduceCtorEq, Int.reduceBEq, Int.reduceBNe, Int.reduceLT, Int.reduceLE, Int.reduceGT, Int.reduceGE]; rfl)) | rfl)
  · (first | (focus (simp only [go_sem, ↓reduceIte, Nat.reduceEqDiff, Nat.reduceBEq, Nat.reduceAdd, Nat.reduceLeDiff, Nat.reduceMul, Nat.reduceLT, Int.reduceToNat, reduceCtorEq, Int.reduceBEq, Int.reduceBNe, Int.reduceLT, Int.reduceLE, Int.reduceGT, Int.reduceGE, b1]; done)) | (focus (simp only [go_sem, ↓reduceIte, Nat.reduceEqDiff, Nat.reduceBEq, Nat.reduceAdd, Nat.reduceLeDiff, Nat.reduceMul, Nat.reduceLT, Int.reduceToNat, reduceCtorEq, Int.reduceBEq, Int.reduceBNe, Int.reduceLT, Int.reduceLE, Int.reduceGT, Int.reduceGE, b1]; rfl)) | rfl)
  · (first | (focus (simp only [go_sem, ↓reduceIte, Nat.reduceEqDiff, Nat.reduceBEq, Nat.reduceAdd, Nat.reduceLeDiff, Nat.reduceMul, Nat.reduceLT, Int.reduceToNat, reduceCtorEq, Int.reduceBEq, Int.reduceBNe, Int.reduceLT, Int.reduceLE, Int.reduceGT, Int.reduceGE, l1]; done)) | (focus (simp only [go_sem, ↓reduceIte, Nat.reduceEqDiff, Nat.reduceBEq, Nat.reduceAdd, Nat.reduceLeDiff, Nat.reduceMul, Nat.reduceLT, Int.reduceToNat, reduceCtorEq, Int.reduceBEq, Int.reduceBNe, Int.reduceLT, Int.reduceLE, Int.reduceGT, Int.reduceGE, l1]; rfl)) | rfl)
  · (first | (focus (simp only [go_sem, ↓reduceIte, Nat.reduceEqDiff, Nat.reduceBEq, Nat.reduceAdd, Nat.reduceLeDiff, Nat.reduceMul, Nat.reduceLT, Int.reduceToNat, reduceCtorEq, Int.reduceBEq, Int.reduceBNe, Int.reduceLT, Int.reduceLE, Int.reduceGT, Int.reduceGE, l2]; done)) | (focus (simp only [go_sem, ↓reduceIte, Nat.reduceEqDiff, Nat.reduceBEq, Nat.reduceAdd, Nat.reduceLeDiff, Nat.reduceMul, Nat.reduceLT, Int.reduceToNat, reduceCtorEq, Int.reduceBEq, Int.reduceBNe, Int.reduceLT, Int.reduceLE, Int.reduceGT, Int.reduceGE, l2]; rfl)) | rfl)
  · (first | (focus (simp only [go_sem, ↓reduceIte, Nat.reduceEqDiff, Nat.reduceBEq, Nat.reduceAdd, Nat.reduceLeDiff, Nat.reduceMul, Nat.reduceLT, Int.reduceToNat, reduceCtorEq, Int.reduceBEq, Int.reduceBNe, Int.reduceLT, Int.reduceLE, Int.reduceGT, Int.reduceGE]; done)) | (focus (simp only [go_sem, ↓reduceIte, Nat.reduceEqDiff, Nat.reduceBEq, Nat.reduceAdd, Nat.reduceLeDiff, Nat.reduceMul, Nat.reduceLT, Int.reduceToNat, reduceCtorEq, Int.reduceBEq, Int.reduceBNe, Int.reduceLT, Int.reduceLE, Int.reduceGT, Int.reduceGE]; rfl)) | rfl)
  · (first | (focus (simp only [go_sem, ↓reduceIte, Nat.reduceEqDiff, Nat.reduceBEq, Nat.reduceAdd, Nat.reduceLeDiff, Nat.reduceMul, Nat.reduceLT, Int.reduceToNat, reduceCtorEq, Int.reduceBEq, Int.reduceBNe, Int.reduceLT, Int.reduceLE, Int.reduceGT, Int.reduceGE]; done)) | (focus (simp only [go_sem, ↓reduceIte, Nat.reduceEqDiff, Nat.reduceBEq, Nat.reduceAdd, Nat.reduceLeDiff, Nat.reduceMul, Nat.reduceLT, Int.reduceToNat, reduceCtorEq, Int.reduceBEq, Int.reduceBNe, Int.reduceLT, Int.reduceLE, Int.reduceGT, Int.reduceGE]; rfl)) | rfl)
  generalize H ++ [AObj.cells [[iv 0, iv 0, iv 0, iv 0, iv 0]] 66] ++ [.cells [[iv q.K, iv 0, iv 0, iv 0, iv 0]] 66] ++ [.cells [[iv q.e0, iv q.e1, iv q.e2, iv q.e3]] 132] = B at *
  rintro T ⟨t1, t2', t4, t5, t6, t7, t8, t9⟩
  refine Awp.mono (Q := fun e T' B' => e = .normal ∧ B' = B ∧ T' 4 = .mptr H.length 0 0 ∧ T' 5 = iv (q.by m) ∧ T' 6 = .mptr (H.length + 1) 0 0 ∧ T' 7 = .mptr (H.length + 2) 0 0 ∧ T' 8 = iv (q.val m) ∧ T' 9 = iv q.least) ?_ ?_
  · rcases hK with hK | hK | hK
    · have hby : q.by m = 1000 * (1 + q.by'.tmod 16) := if_pos hK
      have hval : q.val m = (m * q.by m).tdiv 1000 := if_pos hK
      have hle : q.least = 1 := if_pos hK
      have m1 := mul_in (a := m) (b := q.by m) (A := 1000) (B := 16000) (by omega) (by omega) (by omega) (by omega)
      have w1 : IntKind.i64.wrap (q.by'.tmod 16) = q.by'.tmod 16 := w64 (by omega) (by omega)
      have w2 : IntKind.i64.wrap (1 + q.by'.tmod 16) = 1 + q.by'.tmod 16 := w64 (by omega) (by omega)
      have w3 : IntKind.i64.wrap (1000 * (1 + q.by'.tmod 16)) = q.by m := by rw [← hby]; exact w64 (by omega) (by omega)
      have w4 : IntKind.i64.wrap (m * q.by m) = m * q.by m := w64 (by omega) (by omega)
      have w5 : IntKind.i64.wrap ((m * q.by m).tdiv 1000) = q.val m := by rw [← hval]; exact w64 (by omega) (by omega)
      rw [hK] at eB2
      rw [hle]
      repeat' (first | refine spD (fun _ => ?_) (fun _ => ?_) | refine spF (fun _ => ?_) (fun _ => ?_) | (apply gT; (exact rfl)) | (apply off; (exact rfl); (exact rfl)) | (apply condT; (exact rfl)) | (apply condF; (exact rfl)) | ((first | (apply stp0; (exact rfl); (exact rfl)) | (apply stpN0; (exact rfl)) | apply gT | apply condT | ((first | apply bodyQ_d0 | apply bodyQ_d1 | apply bodyQ_d2 | apply bodyQ_d3 | apply bodyQ_d4); (exact .inr rfl); (rw [Try.results59]))); (first | (focus (simp only [go_sem, ↓reduceIte, Nat.reduceEqDiff, Nat.reduceBEq, Nat.reduceAdd, Nat.reduceLeDiff, Nat.reduceMul, Nat.reduceLT, Int.reduceToNat, reduceCtorEq, Int.reduceBEq, Int.reduceBNe, Int.reduceLT, Int.reduceLE, Int.reduceGT, Int.reduceGE, Pb.cs, t1, t2', t4, t5, t6, t7, t8, t9, eB2, c2, w1, w2, w3, w4, w5] <;> rfl)) | exact rfl); (first | (fail_if_success (show okD _ _ _ _ _ _ _ _ _)) | (first | exact okT | exact okN | exact okE rfl)); (first | (fail_if_success (show Bel _ _)) | (focus first | exact .val _ | (simp [oneOf, Bel_iff_tup, Bel_iff_agg, Bel_iff_rsl, Bel_iff_fn, Bel_iff_rptr, Bel_val]; done)))) | refine thenQ_n ?_ | refine thenQ_r ?_ | refine thenQ_e ?_ | refine blockQ_n ?_ | refine blockQ_r ?_ | refine blockQ_e ?_ | (apply blockQ_o; (exact rfl)) | refine Awp.seq ?_ | refine Awp.skip ?_ | refine Awp.block ?_ | refine reg (fun s => s == 4 || s == 6 || s == 7) ?_ | (apply drwE mixed (fun s => s == 4 || s == 6 || s == 7); (kernel_rfl)) | refine fin ?_ | refine Awp.ret ?_ | refine Awp.exit ?_ | ((first | (apply off; (exact rfl)) | apply condF); (first | (focus (simp only [go_sem, ↓reduceIte, Nat.reduceEqDiff, Nat.reduceBEq, Nat.reduceAdd, Nat.reduceLeDiff, Nat.reduceMul, Nat.reduceLT, Int.reduceToNat, reduceCtorEq, Int.reduceBEq, Int.reduceBNe, Int.reduceLT, Int.reduceLE, Int.reduceGT, Int.reduceGE, Pb.cs, t1, t2', t4, t5, t6, t7, t8, t9, eB2, c2, w1, w2, w3, w4, w5] <;> rfl)) | exact rfl)))
      all_goals first | contradiction | (exfalso; omega) | skip
      refine ⟨rfl, rfl, ?_, ?_, ?_, ?_, ?_, ?_⟩
      · (first | (focus (simp only [go_sem, ↓reduceIte, Nat.reduceEqDiff, Nat.reduceBEq, Nat.reduceAdd, Nat.reduceLeDiff, Nat.reduceMul, Nat.reduceLT, Int.reduceToNat, reduceCtorEq, Int.reduceBEq, Int.reduceBNe, Int.reduceLT, Int.reduceLE, Int.reduceGT, Int.reduceGE, t4]; done)) | (focus (simp only [go_sem, ↓reduceIte, Nat.reduceEqDiff, Nat.reduceBEq, Nat.reduceAdd, Nat.reduceLeDiff, Nat.reduceMul, Nat.reduceLT, Int.reduceToNat, reduceCtorEq, Int.reduceBEq, Int.reduceBNe, Int.reduceLT, Int.reduceLE, Int.reduceGT, Int.reduceGE, t4]; rfl)) | rfl)
      · (first | (focus (simp only [go_sem, ↓reduceIte, Nat.reduceEqDiff, Nat.reduceBEq, Nat.reduceAdd, Nat.reduceLeDiff, Nat.reduceMul, Nat.reduceLT, Int.reduceToNat, reduceCtorEq, Int.reduceBEq, Int.reduceBNe, Int.reduceLT, Int.reduceLE, Int.reduceGT, Int.reduceGE]; done)) | (focus (simp only [go_sem, ↓reduceIte, Nat.reduceEqDiff, Nat.reduceBEq, Nat.reduceAdd, Nat.reduceLeDiff, Nat.reduceMul, Nat.reduceLT, Int.reduceToNat, reduceCtorEq, Int.reduceBEq, Int.reduceBNe, Int.reduceLT, Int.reduceLE, Int.reduceGT, Int.reduceGE]; rfl)) | rfl)
      · (first | (focus (simp only [go_sem, ↓reduceIte, Nat.reduceEqDiff, Nat.reduceBEq, Nat.reduceAdd, Nat.reduceLeDiff, Nat.reduceMul, Nat.reduceLT, Int.reduceToNat, reduceCtorEq, Int.reduceBEq, Int.reduceBNe, Int.reduceLT, Int.reduceLE, Int.reduceGT, Int.reduceGE, t6]; done)) | (focus (simp only [go_sem, ↓reduceIte, Nat.reduceEqDiff, Nat.reduceBEq, Nat.reduceAdd, Nat.reduceLeDiff, Nat.reduceMul, Nat.reduceLT, Int.reduceToNat, reduceCtorEq, Int.reduceBEq, Int.reduceBNe, Int.reduceLT, Int.reduceLE, Int.reduceGT, Int.reduceGE, t6]; rfl)) | rfl)
      · (first | (focus (simp only [go_sem, ↓reduceIte, Nat.reduceEqDiff, Nat.reduceBEq, Nat.reduceAdd, Nat.reduceLeDiff, Nat.reduceMul, Nat.reduceLT, Int.reduceToNat, reduceCtorEq, Int.reduceBEq, Int.reduceBNe, Int.reduceLT, Int.reduceLE, Int.reduceGT, Int.reduceGE, t7]; done)) | (focus (simp only [go_sem, ↓reduceIte, Nat.reduceEqDiff, Nat.reduceBEq, Nat.reduceAdd, Nat.reduceLeDiff, Nat.reduceMul, Nat.reduceLT, Int.reduceToNat, reduceCtorEq, Int.reduceBEq, Int.reduceBNe, Int.reduceLT, Int.reduceLE, Int.reduceGT, Int.reduceGE, t7]; rfl)) | rfl)
      · (first | (focus (simp only [go_sem, ↓reduceIte, Nat.reduceEqDiff, Nat.reduceBEq, Nat.reduceAdd, Nat.reduceLeDiff, Nat.reduceMul, Nat.reduceLT, Int.reduceToNat, reduceCtorEq, Int.reduceBEq, Int.reduceBNe, Int.reduceLT, Int.reduceLE, Int.reduceGT, Int.reduceGE]; done)) | (focus (simp only [go_sem, ↓reduceIte, Nat.reduceEqDiff, Nat.reduceBEq, Nat.reduceAdd, Nat.reduceLeDiff, Nat.reduceMul, Nat.reduceLT, Int.reduceToNat, reduceCtorEq, Int.reduceBEq, Int.reduceBNe, Int.reduceLT, Int.reduceLE, Int.reduceGT, Int.reduceGE]; rfl)) | rfl)
      · (first | (focus (simp only [go_sem, ↓reduceIte, Nat.reduceEqDiff, Nat.reduceBEq, Nat.reduceAdd, Nat.reduceLeDiff, Nat.reduceMul, Nat.reduceLT, Int.reduceToNat, reduceCtorEq, Int.reduceBEq, Int.reduceBNe, Int.reduceLT, Int.reduceLE, Int.reduceGT, Int.reduceGE, t9]; done)) | (focus (simp only [go_sem, ↓reduceIte, Nat.reduceEqDiff, Nat.reduceBEq, Nat.reduceAdd, Nat.reduceLeDiff, Nat.reduceMul, Nat.reduceLT, Int.reduceToNat, reduceCtorEq, Int.reduceBEq, Int.reduceBNe, Int.reduceLT, Int.reduceLE, Int.reduceGT, Int.reduceGE, t9]; rfl)) | rfl)
    · have hK1 : ¬ q.K = 1 := by omega
      have hby : q.by m = 100 * (1 + q.by'.tmod 2) := (if_neg hK1).trans (if_pos hK)
      have hval : q.val m = (m * 2000000).tdiv (q.by m) := (if_neg hK1).trans (if_pos hK)
      have hle : q.least = 1 := (if_neg hK1).trans (if_pos hK)
      have hn0 : q.by m ≠ 0 := by omega
      have w1 : IntKind.i64.wrap (q.by'.tmod 2) = q.by'.tmod 2 := w64 (by omega) (by omega)
      have w2 : IntKind.i64.wrap (1 + q.by'.tmod 2) = 1 + q.by'.tmod 2 := w64 (by omega) (by omega)
      have w3 : IntKind.i64.wrap (100 * (1 + q.by'.tmod 2)) = q.by m := by rw [← hby]; exact w64 (by omega) (by omega)
      have w4 : IntKind.i64.wrap (m * 2000000) = m * 2000000 := w64 (by omega) (by omega)
      have w5 : IntKind.i64.wrap ((m * 2000000).tdiv (q.by m)) = q.val m := by rw [← hval]; exact w64 (by omega) (by omega)
      rw [hK] at eB2
      rw [hle]
      repeat' (first | refine spD (fun _ => ?_) (fun _ => ?_) | refine spF (fun _ => ?_) (fun _ => ?_) | (apply gT; (exact rfl)) | (apply off; (exact rfl); (exact rfl)) | (apply condT; (exact rfl)) | (apply condF; (exact rfl)) | ((first | (apply stp0; (exact rfl); (exact rfl)) | (apply stpN0; (exact rfl)) | apply gT | apply condT | ((first | apply bodyQ_d0 | apply bodyQ_d1 | apply bodyQ_d2 | apply bodyQ_d3 | apply bodyQ_d4); (exact .inr rfl); (rw [Try.results59]))); (first | (focus (simp only [go_sem, ↓reduceIte, Nat.reduceEqDiff, Nat.reduceBEq, Nat.reduceAdd, Nat.reduceLeDiff, Nat.reduceMul, Nat.reduceLT, Int.reduceToNat, reduceCtorEq, Int.reduceBEq, Int.reduceBNe, Int.reduceLT, Int.reduceLE, Int.reduceGT, Int.reduceGE, Pb.cs, t1, t2', t4, t5, t6, t7, t8, t9, eB2, c2, w1, w2, w3, w4, w5, hn0, ne_eq, not_false_eq_true] <;> rfl)) | exact rfl); (first | (fail_if_success (show okD _ _ _ _ _ _ _ _ _)) | (first | exact okT | exact okN | exact okE rfl)); (first | (fail_if_success (show Bel _ _)) | (focus first | exact .val _ | (simp [oneOf, Bel_iff_tup, Bel_iff_agg, Bel_iff_rsl, Bel_iff_fn, Bel_iff_rptr, Bel_val]; done)))) | refine thenQ_n ?_ | refine thenQ_r ?_ | refine thenQ_e ?_ | refine blockQ_n ?_ | refine blockQ_r ?_ | refine blockQ_e ?_ | (apply blockQ_o; (exact rfl)) | refine Awp.seq ?_ | refine Awp.skip ?_ | refine Awp.block ?_ | refine reg (fun s => s == 4 || s == 6 || s == 7) ?_ | (apply drwE mixed (fun s => s == 4 || s == 6 || s == 7); (kernel_rfl)) | refine fin ?_ | refine Awp.ret ?_ | refine Awp.exit ?_ | ((first | (apply off; (exact rfl)) | apply condF); (first | (focus (simp only [go_sem, ↓reduceIte, Nat.reduceEqDiff, Nat.reduceBEq, Nat.reduceAdd, Nat.reduceLeDiff, Nat.reduceMul, Nat.reduceLT, Int.reduceToNat, reduceCtorEq, Int.reduceBEq, Int.reduceBNe, Int.reduceLT, Int.reduceLE, Int.reduceGT, Int.reduceGE, Pb.cs, t1, t2', t4, t5, t6, t7, t8, t9, eB2, c2, w1, w2, w3, w4, w5, hn0, ne_eq, not_false_eq_true] <;> rfl)) | exact rfl)))
      all_goals first | contradiction | (exfalso; omega) | skip
      refine ⟨rfl, rfl, ?_, ?_, ?_, ?_, ?_, ?_⟩
      · (first | (focus (simp only [go_sem, ↓reduceIte, Nat.reduceEqDiff, Nat.reduceBEq, Nat.reduceAdd, Nat.reduceLeDiff, Nat.reduceMul, Nat.reduceLT, Int.reduceToNat, reduceCtorEq, Int.reduceBEq, Int.reduceBNe, Int.reduceLT, Int.reduceLE, Int.reduceGT, Int.reduceGE, t4]; done)) | (focus (simp only [go_sem, ↓reduceIte, Nat.reduceEqDiff, Nat.reduceBEq, Nat.reduceAdd, Nat.reduceLeDiff, Nat.reduceMul, Nat.reduceLT, Int.reduceToNat, reduceCtorEq, Int.reduceBEq, Int.reduceBNe, Int.reduceLT, Int.reduceLE, Int.reduceGT, Int.reduceGE, t4]; rfl)) | rfl)
      · (first | (focus (simp only [go_sem, ↓reduceIte, Nat.reduceEqDiff, Nat.reduceBEq, Nat.reduceAdd, Nat.reduceLeDiff, Nat.reduceMul, Nat.reduceLT, Int.reduceToNat, reduceCtorEq, Int.reduceBEq, Int.reduceBNe, Int.reduceLT, Int.reduceLE, Int.reduceGT, Int.reduceGE]; done)) | (focus (simp only [go_sem, ↓reduceIte, Nat.reduceEqDiff, Nat.reduceBEq, Nat.reduceAdd, Nat.reduceLeDiff, Nat.reduceMul, Nat.reduceLT, Int.reduceToNat, reduceCtorEq, Int.reduceBEq, Int.reduceBNe, Int.reduceLT, Int.reduceLE, Int.reduceGT, Int.reduceGE]; rfl)) | rfl)
      · (first | (focus (simp only [go_sem, ↓reduceIte, Nat.reduceEqDiff, Nat.reduceBEq, Nat.reduceAdd, Nat.reduceLeDiff, Nat.reduceMul, Nat.reduceLT, Int.reduceToNat, reduceCtorEq, Int.reduceBEq, Int.reduceBNe, Int.reduceLT, Int.reduceLE, Int.reduceGT, Int.reduceGE, t6]; done)) | (focus (simp only [go_sem, ↓reduceIte, Nat.reduceEqDiff, Nat.reduceBEq, Nat.reduceAdd, Nat.reduceLeDiff, Nat.reduceMul, Nat.reduceLT, Int.reduceToNat, reduceCtorEq, Int.reduceBEq, Int.reduceBNe, Int.reduceLT, Int.reduceLE, Int.reduceGT, Int.reduceGE, t6]; rfl)) | rfl)
      · (first | (focus (simp only [go_sem, ↓reduceIte, Nat.reduceEqDiff, Nat.reduceBEq, Nat.reduceAdd, Nat.reduceLeDiff, Nat.reduceMul, Nat.reduceLT, Int.reduceToNat, reduceCtorEq, Int.reduceBEq, Int.reduceBNe, Int.reduceLT, Int.reduceLE, Int.reduceGT, Int.reduceGE, t7]; done)) | (focus (simp only [go_sem, ↓reduceIte, Nat.reduceEqDiff, Nat.reduceBEq, Nat.reduceAdd, Nat.reduceLeDiff, Nat.reduceMul, Nat.reduceLT, Int.reduceToNat, reduceCtorEq, Int.reduceBEq, Int.reduceBNe, Int.reduceLT, Int.reduceLE, Int.reduceGT, Int.reduceGE, t7]; rfl)) | rfl)
      · (first | (focus (simp only [go_sem, ↓reduceIte, Nat.reduceEqDiff, Nat.reduceBEq, Nat.reduceAdd, Nat.reduceLeDiff, Nat.reduceMul, Nat.reduceLT, Int.reduceToNat, reduceCtorEq, Int.reduceBEq, Int.reduceBNe, Int.reduceLT, Int.reduceLE, Int.reduceGT, Int.reduceGE]; done)) | (focus (simp only [go_sem, ↓reduceIte, Nat.reduceEqDiff, Nat.reduceBEq, Nat.reduceAdd, Nat.reduceLeDiff, Nat.reduceMul, Nat.reduceLT, Int.reduceToNat, reduceCtorEq, Int.reduceBEq, Int.reduceBNe, Int.reduceLT, Int.reduceLE, Int.reduceGT, Int.reduceGE]; rfl)) | rfl)
      · (first | (focus (simp only [go_sem, ↓reduceIte, Nat.reduceEqDiff, Nat.reduceBEq, Nat.reduceAdd, Nat.reduceLeDiff, Nat.reduceMul, Nat.reduceLT, Int.reduceToNat, reduceCtorEq, Int.reduceBEq, Int.reduceBNe, Int.reduceLT, Int.reduceLE, Int.reduceGT, Int.reduceGE, t9]; done)) | (focus (simp only [go_sem, ↓reduceIte, Nat.reduceEqDiff, Nat.reduceBEq, Nat.reduceAdd, Nat.reduceLeDiff, Nat.reduceMul, Nat.reduceLT, Int.reduceToNat, reduceCtorEq, Int.reduceBEq, Int.reduceBNe, Int.reduceLT, Int.reduceLE, Int.reduceGT, Int.reduceGE, t9]; rfl)) | rfl)
    · have hK1 : ¬ q.K = 1 := by omega
      have hK2 : ¬ q.K = 2 := by omega
      have hby : q.by m = m + q.by' := (if_neg hK1).trans (if_neg hK2)
      have hval : q.val m = q.by m - m := (if_neg hK1).trans (if_neg hK2)
      have hle : q.least = 0 := (if_neg hK1).trans (if_neg hK2)
      have w3 : IntKind.i64.wrap (m + q.by') = q.by m := by rw [← hby]; exact w64 (by omega) (by omega)
      have w5 : IntKind.i64.wrap (q.by m - m) = q.val m := by rw [← hval]; exact w64 (by omega) (by omega)
      rw [hK] at eB2
      rw [hle]
      repeat' (first | refine spD (fun _ => ?_) (fun _ => ?_) | refine spF (fun _ => ?_) (fun _ => ?_) | (apply gT; (exact rfl)) | (apply off; (exact rfl); (exact rfl)) | (apply condT; (exact rfl)) | (apply condF; (exact rfl)) | ((first | (apply stp0; (exact rfl); (exact rfl)) | (apply stpN0; (exact rfl)) | apply gT | apply condT | ((first | apply bodyQ_d0 | apply bodyQ_d1 | apply bodyQ_d2 | apply bodyQ_d3 | apply bodyQ_d4); (exact .inr rfl); (rw [Try.results59]))); (first | (focus (simp only [go_sem, ↓reduceIte, Nat.reduceEqDiff, Nat.reduceBEq, Nat.reduceAdd, Nat.reduceLeDiff, Nat.reduceMul, Nat.reduceLT, Int.reduceToNat, reduceCtorEq, Int.reduceBEq, Int.reduceBNe, Int.reduceLT, Int.reduceLE, Int.reduceGT, Int.reduceGE, Pb.cs, t1, t2', t4, t5, t6, t7, t8, t9, eB2, c2, w3, w5] <;> rfl)) | exact rfl); (first | (fail_if_success (show okD _ _ _ _ _ _ _ _ _)) | (first | exact okT | exact okN | exact okE rfl)); (first | (fail_if_success (show Bel _ _)) | (focus first | exact .val _ | (simp [oneOf, Bel_iff_tup, Bel_iff_agg, Bel_iff_rsl, Bel_iff_fn, Bel_iff_rptr, Bel_val]; done)))) | refine thenQ_n ?_ | refine thenQ_r ?_ | refine thenQ_e ?_ | refine blockQ_n ?_ | refine blockQ_r ?_ | refine blockQ_e ?_ | (apply blockQ_o; (exact rfl)) | refine Awp.seq ?_ | refine Awp.skip ?_ | refine Awp.block ?_ | refine reg (fun s => s == 4 || s == 6 || s == 7) ?_ | (apply drwE mixed (fun s => s == 4 || s == 6 || s == 7); (kernel_rfl)) | refine fin ?_ | refine Awp.ret ?_ | refine Awp.exit ?_ | ((first | (apply off; (exact rfl)) | apply condF); (first | (focus (simp only [go_sem, ↓reduceIte, Nat.reduceEqDiff, Nat.reduceBEq, Nat.reduceAdd, Nat.reduceLeDiff, Nat.reduceMul, Nat.reduceLT, Int.reduceToNat, reduceCtorEq, Int.reduceBEq, Int.reduceBNe, Int.reduceLT, Int.reduceLE, Int.reduceGT, Int.reduceGE, Pb.cs, t1, t2', t4, t5, t6, t7, t8, t9, eB2, c2, w3, w5] <;> rfl)) | exact rfl)))
      all_goals first | contradiction | (exfalso; omega) | skip
      refine ⟨rfl, rfl, ?_, ?_, ?_, ?_, ?_, ?_⟩
      · (first | (focus (simp only [go_sem, ↓reduceIte, Nat.reduceEqDiff, Nat.reduceBEq, Nat.reduceAdd, Nat.reduceLeDiff, Nat.reduceMul, Nat.reduceLT, Int.reduceToNat, reduceCtorEq, Int.reduceBEq, Int.reduceBNe, Int.reduceLT, Int.reduceLE, Int.reduceGT, Int.reduceGE, t4]; done)) | (focus (simp only [go_sem, ↓reduceIte, Nat.reduceEqDiff, Nat.reduceBEq, Nat.reduceAdd, Nat.reduceLeDiff, Nat.reduceMul, Nat.reduceLT, Int.reduceToNat, reduceCtorEq, Int.reduceBEq, Int.reduceBNe, Int.reduceLT, Int.reduceLE, Int.reduceGT, Int.reduceGE, t4]; rfl)) | rfl)
      · (first | (focus (simp only [go_sem, ↓reduceIte, Nat.reduceEqDiff, Nat.reduceBEq, Nat.reduceAdd, Nat.reduceLeDiff, Nat.reduceMul, Nat.reduceLT, Int.reduceToNat, reduceCtorEq, Int.reduceBEq, Int.reduceBNe, Int.reduceLT, Int.reduceLE, Int.reduceGT, Int.reduceGE]; done)) | (focus (simp only [go_sem, ↓reduceIte, Nat.reduceEqDiff, Nat.reduceBEq, Nat.reduceAdd, Nat.reduceLeDiff, Nat.reduceMul, Nat.reduceLT, Int.reduceToNat, reduceCtorEq, Int.reduceBEq, Int.reduceBNe, Int.reduceLT, Int.reduceLE, Int.reduceGT, Int.reduceGE]; rfl)) | rfl)
      · (first | (focus (simp only [go_sem, ↓reduceIte, Nat.reduceEqDiff, Nat.reduceBEq, Nat.reduceAdd, Nat.reduceLeDiff, Nat.reduceMul, Nat.reduceLT, Int.reduceToNat, reduceCtorEq, Int.reduceBEq, Int.reduceBNe, Int.reduceLT, Int.reduceLE, Int.reduceGT, Int.reduceGE, t6]; done)) | (focus (simp only [go_sem, ↓reduceIte, Nat.reduceEqDiff, Nat.reduceBEq, Nat.reduceAdd, Nat.reduceLeDiff, Nat.reduceMul, Nat.reduceLT, Int.reduceToNat, reduceCtorEq, Int.reduceBEq, Int.reduceBNe, Int.reduceLT, Int.reduceLE, Int.reduceGT, Int.reduceGE, t6]; rfl)) | rfl)
      · (first | (focus (simp only [go_sem, ↓reduceIte, Nat.reduceEqDiff, Nat.reduceBEq, Nat.reduceAdd, Nat.reduceLeDiff, Nat.reduceMul, Nat.reduceLT, Int.reduceToNat, reduceCtorEq, Int.reduceBEq, Int.reduceBNe, Int.reduceLT, Int.reduceLE, Int.reduceGT, Int.reduceGE, t7]; done)) | (focus (simp only [go_sem, ↓reduceIte, Nat.reduceEqDiff, Nat.reduceBEq, Nat.reduceAdd, Nat.reduceLeDiff, Nat.reduceMul, Nat.reduceLT, Int.reduceToNat, reduceCtorEq, Int.reduceBEq, Int.reduceBNe, Int.reduceLT, Int.reduceLE, Int.reduceGT, Int.reduceGE, t7]; rfl)) | rfl)
      · (first | (focus (simp only [go_sem, ↓reduceIte, Nat.reduceEqDiff, Nat.reduceBEq, Nat.reduceAdd, Nat.reduceLeDiff, Nat.reduceMul, Nat.reduceLT, Int.reduceToNat, reduceCtorEq, Int.reduceBEq, Int.reduceBNe, Int.reduceLT, Int.reduceLE, Int.reduceGT, Int.reduceGE]; done)) | (focus (simp only [go_sem, ↓reduceIte, Nat.reduceEqDiff, Nat.reduceBEq, Nat.reduceAdd, Nat.reduceLeDiff, Nat.reduceMul, Nat.reduceLT, Int.reduceToNat, reduceCtorEq, Int.reduceBEq, Int.reduceBNe, Int.reduceLT, Int.reduceLE, Int.reduceGT, Int.reduceGE]; rfl)) | rfl)
      · (first | (focus (simp only [go_sem, ↓reduceIte, Nat.reduceEqDiff, Nat.reduceBEq, Nat.reduceAdd, Nat.reduceLeDiff, Nat.reduceMul, Nat.reduceLT, Int.reduceToNat, reduceCtorEq, Int.reduceBEq, Int.reduceBNe, Int.reduceLT, Int.reduceLE, Int.reduceGT, Int.reduceGE]; done)) | (focus (simp only [go_sem, ↓reduceIte, Nat.reduceEqDiff, Nat.reduceBEq, Nat.reduceAdd, Nat.reduceLeDiff, Nat.reduceMul, Nat.reduceLT, Int.reduceToNat, reduceCtorEq, Int.reduceBEq, Int.reduceBNe, Int.reduceLT, Int.reduceLE, Int.reduceGT, Int.reduceGE]; rfl)) | rfl)
  · rintro e T' B' ⟨rfl, rfl, s4, s5, s6, s7, s8, s9⟩
    simp only [thenQ]
    have hBl : H.length + 2 < B'.length := (List.getElem?_eq_some_iff.1 eB3).1
    have q1 := heldO (s := H.length + 1) (by omega) eB1
    have q3 := heldO (s := H.length + 1) (by omega) eB3
    have q2 := heldS eB2
    have q5 := heldS eB1
    repeat' (first | refine spD (fun _ => ?_) (fun _ => ?_) | refine spF (fun _ => ?_) (fun _ => ?_) | (apply gT; (exact rfl)) | (apply off; (exact rfl); (exact rfl)) | (apply condT; (exact rfl)) | (apply condF; (exact rfl)) | ((first | (apply stp0; (exact rfl); (exact rfl)) | (apply stpN0; (exact rfl)) | apply gT | apply condT); (first | (focus (simp only [go_sem, ↓reduceIte, Nat.reduceEqDiff, Nat.reduceBEq, Nat.reduceAdd, Nat.reduceLeDiff, Nat.reduceMul, Nat.reduceLT, Int.reduceToNat, reduceCtorEq, Int.reduceBEq, Int.reduceBNe, Int.reduceLT, Int.reduceLE, Int.reduceGT, Int.reduceGE, s4, s5, s6, s7, s8, s9, eB1, eB2, eB3, q1, q2, q3, w6, w7, w8, w9] <;> rfl)) | exact rfl); (first | (fail_if_success (show okD _ _ _ _ _ _ _ _ _)) | (first | exact okT | exact okN | exact okE rfl))) | refine thenQ_n ?_ | refine thenQ_r ?_ | refine thenQ_e ?_ | refine blockQ_n ?_ | refine blockQ_r ?_ | refine blockQ_e ?_ | (apply blockQ_o; (exact rfl)) | refine Awp.seq ?_ | refine Awp.skip ?_ | refine Awp.block ?_ | refine reg (fun s => s == 4 || s == 6 || s == 7) ?_ | (apply drwE mixed (fun s => s == 4 || s == 6 || s == 7); (kernel_rfl)) | refine fin ?_ | refine Awp.ret ?_ | refine Awp.exit ?_ | ((first | (apply off; (exact rfl)) | apply condF); (first | (focus (simp only [go_sem, ↓reduceIte, Nat.reduceEqDiff, Nat.reduceBEq, Nat.reduceAdd, Nat.reduceLeDiff, Nat.reduceMul, Nat.reduceLT, Int.reduceToNat, reduceCtorEq, Int.reduceBEq, Int.reduceBNe, Int.reduceLT, Int.reduceLE, Int.reduceGT, Int.reduceGE, s4, s5, s6, s7, s8, s9, eB1, eB2, eB3, q1, q2, q3, w6, w7, w8, w9] <;> rfl)) | exact rfl)))
    all_goals first | contradiction | (exfalso; omega) | skip
    have hgs : ∀ x y : AObj, ((B'.set (H.length + 1) y).set H.length x)[H.length]? = some x := fun x y => List.getElem?_set_self (by simp; omega)
    exact bodyQ_sameG (vs := [.agg [iv q.K, iv (max 0 (q.val m - q.e0)), iv (q.val m + q.e1), iv (max q.least (q.by m - q.e2)), iv (q.by m + q.e3)]]) (.inr rfl) (by rw [Try.results59]; simp only [go_sem, ↓reduceIte, Nat.reduceEqDiff, Nat.reduceBEq, Nat.reduceAdd, Nat.reduceLeDiff, Nat.reduceMul, Nat.reduceLT, Int.reduceToNat, reduceCtorEq, Int.reduceBEq, Int.reduceBNe, Int.reduceLT, Int.reduceLE, Int.reduceGT, Int.reduceGE, s4, hgs]) ((hG.set (by omega) _).set (Nat.le_refl _) _)
      (.agg (by intro c hc; simp only [List.mem_cons, List.not_mem_nil, or_false] at hc; rcases hc with rfl | rfl | rfl | rfl | rfl <;> exact .val _)) rfl

theorem distE_cs {x : Ms} (he : (distE x).2 = 0) : ¬ (distE x).1.bad = true ∧ ((x.kind = 1 ∧ x.v.inR 0 16777216 ∧ x.b.inR 1 16777216 ∧ (distE x).1 = x.ohms) ∨ (x.kind = 2 ∧ x.v.inR 0 67108864 ∧ x.b.inR 1 300000 ∧ (distE x).1 = x.echo) ∨ (x.kind = 3 ∧ (distE x).1 = x.far)) := by
  have ov : ∀ s : Sp, (overE s).2 = 0 → ¬ s.bad = true ∧ (overE s).1 = s := by
    intro s h
    unfold overE at h ⊢
    by_cases hb : s.bad = true
    · rw [if_pos hb] at h; simp at h
    · rw [if_neg hb]; exact ⟨hb, rfl⟩
  unfold distE at he ⊢
  by_cases k1 : x.kind = 1
  · rw [if_pos k1] at he ⊢
    by_cases h : x.v.inR 0 16777216 ∧ x.b.inR 1 16777216
    · rw [if_pos h] at he ⊢
      obtain ⟨o1, o2⟩ := ov _ he
      exact ⟨by rw [o2]; exact o1, .inl ⟨k1, h.1, h.2, o2⟩⟩
    · rw [if_neg h] at he; simp at he
  rw [if_neg k1] at he ⊢
  by_cases k2 : x.kind = 2
  · rw [if_pos k2] at he ⊢
    by_cases h : x.v.inR 0 67108864 ∧ x.b.inR 1 300000
    · rw [if_pos h] at he ⊢
      obtain ⟨o1, o2⟩ := ov _ he
      exact ⟨by rw [o2]; exact o1, .inr (.inl ⟨k2, h.1, h.2, o2⟩)⟩
    · rw [if_neg h] at he; simp at he
  rw [if_neg k2] at he ⊢
  by_cases k3 : x.kind = 3
  · rw [if_pos k3] at he ⊢
    by_cases h : x.v.inR 0 1073741824 ∧ x.b.inR 0 1073741824
    · rw [if_pos h] at he ⊢
      obtain ⟨o1, o2⟩ := ov _ he
      exact ⟨by rw [o2]; exact o1, .inr (.inr ⟨k3, o2⟩)⟩
    · rw [if_neg h] at he; simp at he
  rw [if_neg k3] at he; simp at he

theorem truth {q : Pb} (h : q.ok) {m : Int} (h0 : 0 ≤ m) (h1 : m ≤ 1000) (he : (distE (q.ms m)).2 = 0) :
    ¬ (distE (q.ms m)).1.bad = true ∧ (distE (q.ms m)).1.lo ≤ m ∧ m ≤ (distE (q.ms m)).1.hi := by
  obtain ⟨hb, hc⟩ := distE_cs he
  refine ⟨hb, ?_⟩
  obtain ⟨a1, a2, a3, a4, a5, a6⟩ := h
  have t16 := Int.tmod_eq_emod_of_nonneg (a := q.by') (b := 16) (by omega)
  have t2 := Int.tmod_eq_emod_of_nonneg (a := q.by') (b := 2) (by omega)
  rcases hc with ⟨hK, hv, hw, e⟩ | ⟨hK, hv, hw, e⟩ | ⟨hK, e⟩
  · have hK : q.K = 1 := hK
    rw [e]
    have hby : q.by m = 1000 * (1 + q.by'.tmod 16) := if_pos hK
    have hval : q.val m = (m * q.by m).tdiv 1000 := if_pos hK
    have hle : q.least = 1 := if_pos hK
    have p0 : 0 ≤ m * (1 + q.by'.tmod 16) := Int.mul_nonneg h0 (by omega)
    have hmul : m * q.by m = m * (1 + q.by'.tmod 16) * 1000 := by rw [hby, Int.mul_left_comm, Int.mul_comm]
    have hx : 1000 * q.val m = m * q.by m := by
      rw [hval, hmul, Int.mul_tdiv_cancel _ (by omega)]; omega
    have hv' := hv.h
    have hw' := hw.h
    have v1 : (q.ms m).v.lo = max 0 (q.val m - q.e0) := rfl
    have v2 : (q.ms m).v.hi = q.val m + q.e1 := rfl
    have v3 : (q.ms m).b.lo = max q.least (q.by m - q.e2) := rfl
    have v4 : (q.ms m).b.hi = q.by m + q.e3 := rfl
    have m1 : m * q.by m ≤ m * (q.ms m).b.hi := Int.mul_le_mul_of_nonneg_left (by omega) h0
    have m2 : m * (q.ms m).b.lo ≤ m * q.by m := Int.mul_le_mul_of_nonneg_left (by omega) h0
    show (1000 * (q.ms m).v.lo).tdiv (q.ms m).b.hi ≤ m ∧ m ≤ (1000 * (q.ms m).v.hi + (q.ms m).b.lo - 1).tdiv (q.ms m).b.lo
    rw [Int.tdiv_eq_ediv_of_nonneg (by omega), Int.tdiv_eq_ediv_of_nonneg (by omega)]
    exact ⟨Int.ediv_le_of_le_mul (by omega) (by omega), (Int.le_ediv_iff_mul_le (by omega)).2 (by omega)⟩
  · have hK : q.K = 2 := hK
    have hK1 : ¬ q.K = 1 := by omega
    rw [e]
    have hby : q.by m = 100 * (1 + q.by'.tmod 2) := (if_neg hK1).trans (if_pos hK)
    have hval : q.val m = (m * 2000000).tdiv (q.by m) := (if_neg hK1).trans (if_pos hK)
    have hle : q.least = 1 := (if_neg hK1).trans (if_pos hK)
    have hx : q.val m * q.by m = m * 2000000 := by
      have e := Int.tdiv_eq_ediv_of_nonneg (a := m * 2000000) (b := q.by m) (by omega)
      have hb : q.by m = 100 ∨ q.by m = 200 := by omega
      rcases hb with hb | hb <;> rw [hval, e, hb] <;> omega
    have hv' := hv.h
    have hw' := hw.h
    have v1 : (q.ms m).v.lo = max 0 (q.val m - q.e0) := rfl
    have v2 : (q.ms m).v.hi = q.val m + q.e1 := rfl
    have v3 : (q.ms m).b.lo = max q.least (q.by m - q.e2) := rfl
    have v4 : (q.ms m).b.hi = q.by m + q.e3 := rfl
    have hv0 : 0 ≤ q.val m := by
      have e := Int.tdiv_eq_ediv_of_nonneg (a := m * 2000000) (b := q.by m) (by omega)
      have hb : q.by m = 100 ∨ q.by m = 200 := by omega
      rcases hb with hb | hb <;> rw [hval, e, hb] <;> omega
    have m1 : (q.ms m).v.lo * (q.ms m).b.lo ≤ q.val m * q.by m := Int.mul_le_mul (by omega) (by omega) (by omega) (by omega)
    have m2 : q.val m * q.by m ≤ (q.ms m).v.hi * (q.ms m).b.hi := Int.mul_le_mul (by omega) (by omega) (by omega) (by omega)
    have m3 : 0 ≤ (q.ms m).v.lo * (q.ms m).b.lo := Int.mul_nonneg (by omega) (by omega)
    show ((q.ms m).v.lo * (q.ms m).b.lo).tdiv 2000000 ≤ m ∧ m ≤ ((q.ms m).v.hi * (q.ms m).b.hi + 2000000 - 1).tdiv 2000000
    rw [Int.tdiv_eq_ediv_of_nonneg (by omega), Int.tdiv_eq_ediv_of_nonneg (by omega)]
    exact ⟨Int.ediv_le_of_le_mul (by omega) (by omega), (Int.le_ediv_iff_mul_le (by omega)).2 (by omega)⟩
  · have hK : q.K = 3 := hK
    have hK1 : ¬ q.K = 1 := by omega
    have hK2 : ¬ q.K = 2 := by omega
    rw [e]
    have hby : q.by m = m + q.by' := (if_neg hK1).trans (if_neg hK2)
    have hval : q.val m = q.by m - m := (if_neg hK1).trans (if_neg hK2)
    have hle : q.least = 0 := (if_neg hK1).trans (if_neg hK2)
    show max q.least (q.by m - q.e2) - (q.val m + q.e1) ≤ m ∧ m ≤ q.by m + q.e3 - max 0 (q.val m - q.e0)
    omega

/-- the measurements of some probes -/
def msL (l : List Pb) (m : Int) : List Ms := l.map fun q => q.ms m

end Go.Proofs.Ytphfdbmbdaninaa.Ab
