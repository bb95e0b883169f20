/- The program's Copy. Two buffers side by side; what is refused. The law BufferPlays: what compares two lists of what is held; plain facts. The law BufferPlays: a round that puts. -/
import Derived.Test.YtlhchnnfgppneaaYO
import Derived.Test.YtlhchnnfgppneaaYL
namespace Go.Proofs.Ytlhchnnfgppneaa.Ab
open Go Go.RowKit Go.Proofs
set_option linter.unusedSimpArgs false
set_option linter.unusedVariables false
attribute [local irreducible] Awp wpO thenQ blockQ bodyQ ACalls stepA

theorem OrdAt.cell {H : Hp} {a : AV} {ids : List Int} (h : OrdAt H a ids) : a.cells = [a] ∧ AV.isCell a = true := by
  cases h <;> exact ⟨rfl, rfl⟩

/-- what Copy comes to -/
structure CpP (H H1 : Hp) (S : Bf) (F' : Ft) (w' : Rw) : Prop where
  rep : Rep H1 F' w' S
  gr : Grow H H1
  hb : H.length ≤ F'.b
  hr : H.length ≤ F'.r
  hs : H.length ≤ F'.s
  ht : H.length ≤ F'.t
  row : ∀ j m, w'.ord = .msl j 0 m → H.length ≤ j

set_option maxRecDepth 8000 in
set_option maxHeartbeats 8000000 in
theorem Copy_ok {H : Hp} {F : Ft} {w : Rw} {S : Bf} (hR : Rep H F w S) (hg : Good S) :
    ACalls Try.prog 35 [.mptr F.b 0 0] H fun v1 H1 => ∃ F' w', v1 = .mptr F'.b 0 0 ∧ CpP H H1 S F' w' := by
  have hb := hR.raw.hb
  simp only [Rw.cs] at hb
  have hv := valid_ok hR.raw
  have hlm := hg.len
  obtain ⟨ord, hord⟩ : ∃ ord, ord = w.ord := ⟨_, rfl⟩
  have hO := hR.ord
  rw [← hord] at hb hO
  refine ACalls.of_body Try.func35 rfl (by kernel_rfl) (by rw [Try.ntmps35]; simp) ?_; rw [Try.ntmps35]
  repeat' ((fail_if_success (apply stopR (id := 3))); (fail_if_success (apply stopS (id := 3))); first | refine spD (fun _ => ?_) (fun _ => ?_) | refine spF (fun _ => ?_) (fun _ => ?_) | (apply gT; (exact rfl)) | (apply off; (exact rfl); (exact rfl)) | (apply condT; (exact rfl)) | (apply condF; (exact rfl)) | ((first | (apply stp0; (exact rfl); (exact rfl)) | (apply stpN0; (exact rfl)) | apply gT | apply condT | ((first | apply bodyQ_d0 | apply bodyQ_d1 | apply bodyQ_d2 | apply bodyQ_d3 | apply bodyQ_d4); (exact .inr rfl); (rw [Try.results35]))); (first | (focus (simp only [go_sem, ↓reduceIte, simprocAttr] <;> rfl)) | exact rfl); (first | (fail_if_success (show okD _ _ _ _ _ _ _ _ _)) | (first | exact okT | exact okN | exact okE rfl)); (first | (fail_if_success (show Bel _ _)) | (focus first | exact .val _ | (simp [oneOf, Bel_iff_tup, Bel_iff_agg, Bel_iff_rsl, Bel_iff_fn, Bel_iff_rptr, Bel_val]; done)))) | (apply calTo0; (exact rfl); (iterate 2 (simp only [go_sem, ↓reduceIte, simprocAttr]; rfl)); (first | exact hv); (first | exact okT | exact okN | exact okE rfl)) | refine thenQ_n ?_ | refine thenQ_r ?_ | refine thenQ_e ?_ | refine blockQ_n ?_ | refine blockQ_r ?_ | refine blockQ_e ?_ | (apply blockQ_o; (exact rfl)) | refine Awp.seq ?_ | refine Awp.skip ?_ | refine Awp.block ?_ | refine reg (fun s => s == 3) ?_ | (apply drwE mixed (fun s => s == 3); (kernel_rfl)) | refine fin ?_ | refine Awp.ret ?_ | refine Awp.exit ?_ | ((first | (apply off; (exact rfl)) | apply condF); (first | (focus (simp only [go_sem, ↓reduceIte, simprocAttr] <;> rfl)) | exact rfl)))
  all_goals first | contradiction | (exfalso; omega) | skip
  refine Awp.withT (fun T' => T' 0 = .mptr F.b 0 0) (by (first | (focus (simp only [go_sem, ↓reduceIte, simprocAttr]; first | done | rfl)) | rfl)) ?_
  rintro T t0
  refine Awp.seq (Awp.mono (Q := fun e T' K => e = .normal ∧ K = H ++ [.cells [[iv w.cap, iv w.used, iv w.time, ord, .mp F.r, .mp F.s, .mp F.t]] 109] ∧ T' 0 = .mptr F.b 0 0 ∧ T' 3 = .mptr H.length 0 0) ?_ ?_)
  · rcases hO.shape with ⟨e | e, _⟩ | ⟨o, m, e, _⟩ <;> rw [e] at hb ⊢ <;>
    · repeat' (first | refine spD (fun _ => ?_) (fun _ => ?_) | refine spF (fun _ => ?_) (fun _ => ?_) | (apply gT; (exact rfl)) | (apply off; (exact rfl); (exact rfl)) | (apply condT; (exact rfl)) | (apply condF; (exact rfl)) | ((first | (apply stp0; (exact rfl); (exact rfl)) | (apply stpN0; (exact rfl)) | apply gT | apply condT | ((first | apply bodyQ_d0 | apply bodyQ_d1 | apply bodyQ_d2 | apply bodyQ_d3 | apply bodyQ_d4); (exact .inr rfl); (rw [Try.results35]))); (first | (focus (simp only [go_sem, ↓reduceIte, simprocAttr, t0, hb] <;> rfl)) | exact rfl); (first | (fail_if_success (show okD _ _ _ _ _ _ _ _ _)) | (first | exact okT | exact okN | exact okE rfl)); (first | (fail_if_success (show Bel _ _)) | (focus first | exact .val _ | (simp [oneOf, Bel_iff_tup, Bel_iff_agg, Bel_iff_rsl, Bel_iff_fn, Bel_iff_rptr, Bel_val]; done)))) | refine thenQ_n ?_ | refine thenQ_r ?_ | refine thenQ_e ?_ | refine blockQ_n ?_ | refine blockQ_r ?_ | refine blockQ_e ?_ | (apply blockQ_o; (exact rfl)) | refine Awp.seq ?_ | refine Awp.skip ?_ | refine Awp.block ?_ | refine reg (fun s => s == 3) ?_ | (apply drwE mixed (fun s => s == 3); (kernel_rfl)) | refine fin ?_ | refine Awp.ret ?_ | refine Awp.exit ?_ | ((first | (apply off; (exact rfl)) | apply condF); (first | (focus (simp only [go_sem, ↓reduceIte, simprocAttr, t0, hb] <;> rfl)) | exact rfl)))
      all_goals first | contradiction | (exfalso; omega) | skip
      refine ⟨rfl, rfl, ?_, ?_⟩
      · (first | (focus (simp only [go_sem, ↓reduceIte, simprocAttr, t0]; first | done | rfl)) | rfl)
      · (first | (focus (simp only [go_sem, ↓reduceIte, simprocAttr]; first | done | rfl)) | rfl)
  clear t0 T
  rintro e T K ⟨rfl, hK, t0, t3⟩
  have hG : Grow H K := by rw [hK]; exact (Grow.refl H).app _
  have hq : K[H.length]? = some (.cells [[iv w.cap, iv w.used, iv w.time, ord, .mp F.r, .mp F.s, .mp F.t]] 109) := by rw [hK]; exact get_new _ _
  have hKl : K.length = H.length + 1 := by rw [hK]; simp
  clear hK
  have hbK := hG.get hb
  have hil : (idsL S.L).length ≤ 1000 := by simp [idsL]; omega
  obtain ⟨a', X, hcl, hO', hnew⟩ := clone70_ok (hO.grow hG) hil
  refine thenQ_n ?_
  obtain ⟨hlt1, hlt2, hlt3, hlt4⟩ := hR.raw.lt
  have hGX : Grow K (K ++ X) := (Grow.refl K).app X
  have hqX := hGX.get hq
  have hqA := (heldS hqX).1
  refine Awp.seq (Awp.mono (Q := fun e T' J => e = .normal ∧ J = (K ++ X).set H.length (.cells [[iv w.cap, iv w.used, iv w.time, a', .mp F.r, .mp F.s, .mp F.t]] 109) ∧ T' 0 = .mptr F.b 0 0 ∧ T' 3 = .mptr H.length 0 0) ?_ ?_)
  · rcases hO'.shape with ⟨e, _⟩ | ⟨o, m, e, _⟩
    · rcases e with e | e <;> rw [e] at hcl ⊢ <;>
      · repeat' (first | refine spD (fun _ => ?_) (fun _ => ?_) | refine spF (fun _ => ?_) (fun _ => ?_) | (apply gT; (exact rfl)) | (apply off; (exact rfl); (exact rfl)) | (apply condT; (exact rfl)) | (apply condF; (exact rfl)) | ((first | (apply stp0; (exact rfl); (exact rfl)) | (apply stpN0; (exact rfl)) | apply gT | apply condT | ((first | apply bodyQ_d0 | apply bodyQ_d1 | apply bodyQ_d2 | apply bodyQ_d3 | apply bodyQ_d4); (exact .inr rfl); (rw [Try.results35]))); (first | (focus (simp only [go_sem, ↓reduceIte, simprocAttr, t0, t3, hbK, hqX] <;> rfl)) | exact rfl); (first | (fail_if_success (show okD _ _ _ _ _ _ _ _ _)) | (first | exact okT | exact okN | exact okE rfl)); (first | (fail_if_success (show Bel _ _)) | (focus first | exact .val _ | (simp [oneOf, Bel_iff_tup, Bel_iff_agg, Bel_iff_rsl, Bel_iff_fn, Bel_iff_rptr, Bel_val]; done)))) | (apply calTo0; (exact rfl); (iterate 2 (simp only [go_sem, ↓reduceIte, simprocAttr, t0, t3, hbK, hqX]; rfl)); (first | exact hcl); (first | exact okT | exact okN | exact okE rfl)) | refine thenQ_n ?_ | refine thenQ_r ?_ | refine thenQ_e ?_ | refine blockQ_n ?_ | refine blockQ_r ?_ | refine blockQ_e ?_ | (apply blockQ_o; (exact rfl)) | refine Awp.seq ?_ | refine Awp.skip ?_ | refine Awp.block ?_ | refine reg (fun s => s == 3) ?_ | (apply drwE mixed (fun s => s == 3); (kernel_rfl)) | refine fin ?_ | refine Awp.ret ?_ | refine Awp.exit ?_ | ((first | (apply off; (exact rfl)) | apply condF); (first | (focus (simp only [go_sem, ↓reduceIte, simprocAttr, t0, t3, hbK, hqX] <;> rfl)) | exact rfl)))
        all_goals first | contradiction | (exfalso; omega) | skip
        refine ⟨rfl, rfl, ?_, ?_⟩
        · (first | (focus (simp only [go_sem, ↓reduceIte, simprocAttr, t0]; first | done | rfl)) | rfl)
        · (first | (focus (simp only [go_sem, ↓reduceIte, simprocAttr, t3]; first | done | rfl)) | rfl)
    · rw [e] at hcl ⊢
      repeat' (first | refine spD (fun _ => ?_) (fun _ => ?_) | refine spF (fun _ => ?_) (fun _ => ?_) | (apply gT; (exact rfl)) | (apply off; (exact rfl); (exact rfl)) | (apply condT; (exact rfl)) | (apply condF; (exact rfl)) | ((first | (apply stp0; (exact rfl); (exact rfl)) | (apply stpN0; (exact rfl)) | apply gT | apply condT | ((first | apply bodyQ_d0 | apply bodyQ_d1 | apply bodyQ_d2 | apply bodyQ_d3 | apply bodyQ_d4); (exact .inr rfl); (rw [Try.results35]))); (first | (focus (simp only [go_sem, ↓reduceIte, simprocAttr, t0, t3, hbK, hqX] <;> rfl)) | exact rfl); (first | (fail_if_success (show okD _ _ _ _ _ _ _ _ _)) | (first | exact okT | exact okN | exact okE rfl)); (first | (fail_if_success (show Bel _ _)) | (focus first | exact .val _ | (simp [oneOf, Bel_iff_tup, Bel_iff_agg, Bel_iff_rsl, Bel_iff_fn, Bel_iff_rptr, Bel_val]; done)))) | (apply calTo0; (exact rfl); (iterate 2 (simp only [go_sem, ↓reduceIte, simprocAttr, t0, t3, hbK, hqX]; rfl)); (first | exact hcl); (first | exact okT | exact okN | exact okE rfl)) | refine thenQ_n ?_ | refine thenQ_r ?_ | refine thenQ_e ?_ | refine blockQ_n ?_ | refine blockQ_r ?_ | refine blockQ_e ?_ | (apply blockQ_o; (exact rfl)) | refine Awp.seq ?_ | refine Awp.skip ?_ | refine Awp.block ?_ | refine reg (fun s => s == 3) ?_ | (apply drwE mixed (fun s => s == 3); (kernel_rfl)) | refine fin ?_ | refine Awp.ret ?_ | refine Awp.exit ?_ | ((first | (apply off; (exact rfl)) | apply condF); (first | (focus (simp only [go_sem, ↓reduceIte, simprocAttr, t0, t3, hbK, hqX] <;> rfl)) | exact rfl)))
      all_goals first | contradiction | (exfalso; omega) | skip
      refine ⟨rfl, rfl, ?_, ?_⟩
      · (first | (focus (simp only [go_sem, ↓reduceIte, simprocAttr, t0]; first | done | rfl)) | rfl)
      · (first | (focus (simp only [go_sem, ↓reduceIte, simprocAttr, t3]; first | done | rfl)) | rfl)
  clear t0 t3 T
  rintro e T J ⟨rfl, hJ, t0, t3⟩
  refine thenQ_n ?_
  have hXl : K.length ≤ (K ++ X).length := hGX.len
  have hGJ : Grow H J := by rw [hJ]; exact (hG.trans hGX).set (Nat.le_refl _) _
  have hqJ : J[H.length]? = some (.cells [[iv w.cap, iv w.used, iv w.time, a', .mp F.r, .mp F.s, .mp F.t]] 109) := by rw [hJ]; exact (heldS hqX).1 _
  have hOJ : OrdAt J a' (idsL S.L) := by rw [hJ]; exact hO'.set hqX (fun v => b109_ne v) _
  have hJl : H.length + 1 ≤ J.length := by rw [hJ, List.length_set]; omega
  clear hJ hqA hqX hGX hXl hcl hO' hq hbK hKl
  have hbJ := hGJ.get hb
  have hrJ := hGJ.get hR.raw.hr
  have hsJ := hGJ.get hR.raw.hs
  have htJ := hGJ.get hR.raw.ht
  have c1 := clone71_ok hrJ
  have c2 := clone72_ok ((held hsJ).2.1 [.amap (ents w.kr)])
  have c3 := clone73_ok ((held htJ).2.2.1 [.amap (ents w.kr)] [.amap (ents w.ks)])
  have hb0 := held hbJ
  have hb3 := (held hbJ).2.2.2.1 [.amap (ents w.kr)] [.amap (ents w.ks)] [.amap (ents w.kt)]
  have hq3 := (held hqJ).2.2.2.1 [.amap (ents w.kr)] [.amap (ents w.ks)] [.amap (ents w.kt)]
  have hqs := (heldS hq3).1
  have hss := (heldS hq3).2.2.2.2.2.2.2.2.2.1
  have hne : H.length ≠ F.b := by omega
  have hbs := (heldO hne hb3).1
  have e1 : (J ++ [AObj.amap (ents w.kr)]).length = J.length + 1 := by simp
  have e2 : (J ++ [AObj.amap (ents w.kr)] ++ [AObj.amap (ents w.ks)]).length = J.length + 2 := by simp
  rw [e1] at c2
  rw [e2] at c3
  repeat' ((fail_if_success (apply stopR (id := 6))); (fail_if_success (apply stopS (id := 6))); first | refine spD (fun _ => ?_) (fun _ => ?_) | refine spF (fun _ => ?_) (fun _ => ?_) | (apply gT; (exact rfl)) | (apply off; (exact rfl); (exact rfl)) | (apply condT; (exact rfl)) | (apply condF; (exact rfl)) | ((first | (apply stp0; (exact rfl); (exact rfl)) | (apply stpN0; (exact rfl)) | apply gT | apply condT | ((first | apply bodyQ_d0 | apply bodyQ_d1 | apply bodyQ_d2 | apply bodyQ_d3 | apply bodyQ_d4); (exact .inr rfl); (rw [Try.results35]))); (first | (focus (simp only [go_sem, ↓reduceIte, simprocAttr, t0, t3, hbJ, hb0, hq3, hqs, hss] <;> rfl)) | exact rfl); (first | (fail_if_success (show okD _ _ _ _ _ _ _ _ _)) | (first | exact trivial | exact ⟨fun _ => rfl, fun _ _ => rfl, fun h => Bool.noConfusion (show false = true from h)⟩ | (refine ⟨fun _ => rfl, fun _ _ => rfl, fun _ H2 hk => ?_⟩; have e := (hk (F.b) (beq_self_eq_true _)).trans ((by first | exact hbJ | exact hb0.2.1 _ | exact hb0.2.2.1 _ _ | exact hb3 | exact hbs _)); unfold PerfTo; simp only [callOf]; (focus first | (simp only [go_sem, ↓reduceIte, simprocAttr, t0, t3, hbJ, hb0, hq3, hqs, hss, e]; done) | (simp only [go_sem, ↓reduceIte, simprocAttr, t0, t3, hbJ, hb0, hq3, hqs, hss, e]; rfl))) | (refine ⟨fun h => Bool.noConfusion (show true = false from h), fun b hQ => ?_, fun h => Bool.noConfusion (show false = true from h)⟩; have hQ' := eq_of_beq hQ; subst hQ'; first | exact (hbs _).trans hb3.symm | exact (hbs _).trans (hbs _).symm | (simp only [hb0, hbJ])))); (first | (fail_if_success (show Bel _ _)) | (focus first | exact .val _ | (simp [oneOf, Bel_iff_tup, Bel_iff_agg, Bel_iff_rsl, Bel_iff_fn, Bel_iff_rptr, Bel_val]; done)))) | (apply calTo0; (exact rfl); (iterate 2 (simp only [go_sem, ↓reduceIte, simprocAttr, t0, t3, hbJ, hb0, hq3, hqs, hss]; rfl)); (first | exact c1 | exact c2 | exact c3); (first | exact trivial | exact ⟨fun _ => rfl, fun _ _ => rfl, fun h => Bool.noConfusion (show false = true from h)⟩ | (refine ⟨fun _ => rfl, fun _ _ => rfl, fun _ H2 hk => ?_⟩; have e := (hk (F.b) (beq_self_eq_true _)).trans ((by first | exact hbJ | exact hb0.2.1 _ | exact hb0.2.2.1 _ _ | exact hb3 | exact hbs _)); unfold PerfTo; simp only [callOf]; (focus first | (simp only [go_sem, ↓reduceIte, simprocAttr, t0, t3, hbJ, hb0, hq3, hqs, hss, e]; done) | (simp only [go_sem, ↓reduceIte, simprocAttr, t0, t3, hbJ, hb0, hq3, hqs, hss, e]; rfl))) | (refine ⟨fun h => Bool.noConfusion (show true = false from h), fun b hQ => ?_, fun h => Bool.noConfusion (show false = true from h)⟩; have hQ' := eq_of_beq hQ; subst hQ'; first | exact (hbs _).trans hb3.symm | exact (hbs _).trans (hbs _).symm | (simp only [hb0, hbJ])))) | refine thenQ_n ?_ | refine thenQ_r ?_ | refine thenQ_e ?_ | refine blockQ_n ?_ | refine blockQ_r ?_ | refine blockQ_e ?_ | (apply blockQ_o; (exact rfl)) | refine Awp.seq ?_ | refine Awp.skip ?_ | refine Awp.block ?_ | refine reg (fun s => s == 3) ?_ | (apply drw mixed (fun s => s == 3) ⟨fun i => i == 4 || i == 9 || i == 14 || i == 16 || i == 18 || i == 20, fun i => i == 3 || i == 8 || i == 13, fun b => b == F.b⟩; (kernel_rfl)) | refine fin ?_ | refine Awp.ret ?_ | refine Awp.exit ?_ | ((first | (apply off; (exact rfl)) | apply condF); (first | (focus (simp only [go_sem, ↓reduceIte, simprocAttr, t0, t3, hbJ, hb0, hq3, hqs, hss] <;> rfl)) | exact rfl)))
  all_goals first | contradiction | (exfalso; omega) | skip
  have g1 := get_new3 J (.amap (ents w.kr)) (.amap (ents w.ks)) (.amap (ents w.kt))
  have g2 := get_new2 (J ++ [AObj.amap (ents w.kr)]) (.amap (ents w.ks)) (.amap (ents w.kt))
  have g3 := get_new (J ++ [AObj.amap (ents w.kr)] ++ [AObj.amap (ents w.ks)]) (.amap (ents w.kt))
  rw [e1] at g2
  rw [e2] at g3
  have hGB : Grow H (J ++ [AObj.amap (ents w.kr)] ++ [AObj.amap (ents w.ks)] ++ [AObj.amap (ents w.kt)]) := ((hGJ.app _).app _).app _
  have hGB2 := hGB.set (Nat.le_refl _) (.cells [[iv w.cap, iv w.used, iv w.time, a', .mp J.length, .mp (J.length + 1), .mp (J.length + 2)]] 109)
  have hOB : OrdAt (J ++ [AObj.amap (ents w.kr)] ++ [AObj.amap (ents w.ks)] ++ [AObj.amap (ents w.kt)]) a' (idsL S.L) := hOJ.grow ((((Grow.refl J).app _).app _).app _)
  have hOB2 := hOB.set hq3 (fun v => b109_ne v) (.cells [[iv w.cap, iv w.used, iv w.time, a', .mp J.length, .mp (J.length + 1), .mp (J.length + 2)]] 109)
  have hqB := hqs (.cells [[iv w.cap, iv w.used, iv w.time, a', .mp J.length, .mp (J.length + 1), .mp (J.length + 2)]] 109)
  have g1' := (heldO (by omega : H.length ≠ J.length) g1).1 (.cells [[iv w.cap, iv w.used, iv w.time, a', .mp J.length, .mp (J.length + 1), .mp (J.length + 2)]] 109)
  have g2' := (heldO (by omega : H.length ≠ J.length + 1) g2).1 (.cells [[iv w.cap, iv w.used, iv w.time, a', .mp J.length, .mp (J.length + 1), .mp (J.length + 2)]] 109)
  have g3' := (heldO (by omega : H.length ≠ J.length + 2) g3).1 (.cells [[iv w.cap, iv w.used, iv w.time, a', .mp J.length, .mp (J.length + 1), .mp (J.length + 2)]] 109)
  generalize List.set (J ++ [AObj.amap (ents w.kr)] ++ [AObj.amap (ents w.ks)] ++ [AObj.amap (ents w.kt)]) H.length (AObj.cells [[iv w.cap, iv w.used, iv w.time, a', .mp J.length, .mp (J.length + 1), .mp (J.length + 2)]] 109) = B at *
  repeat' (first | refine spD (fun _ => ?_) (fun _ => ?_) | refine spF (fun _ => ?_) (fun _ => ?_) | (apply gT; (exact rfl)) | (apply off; (exact rfl); (exact rfl)) | (apply condT; (exact rfl)) | (apply condF; (exact rfl)) | ((first | (apply stp0; (exact rfl); (exact rfl)) | (apply stpN0; (exact rfl)) | apply gT | apply condT); (first | (focus (simp only [go_sem, ↓reduceIte, simprocAttr, t0, t3] <;> rfl)) | exact rfl); (first | (fail_if_success (show okD _ _ _ _ _ _ _ _ _)) | (first | exact okT | exact okN | exact okE rfl))) | refine thenQ_n ?_ | refine thenQ_r ?_ | refine thenQ_e ?_ | refine blockQ_n ?_ | refine blockQ_r ?_ | refine blockQ_e ?_ | (apply blockQ_o; (exact rfl)) | refine Awp.seq ?_ | refine Awp.skip ?_ | refine Awp.block ?_ | refine reg (fun s => s == 3) ?_ | (apply drwE mixed (fun s => s == 3); (kernel_rfl)) | refine fin ?_ | refine Awp.ret ?_ | refine Awp.exit ?_ | ((first | (apply off; (exact rfl)) | apply condF); (first | (focus (simp only [go_sem, ↓reduceIte, simprocAttr, t0, t3] <;> rfl)) | exact rfl)))
  all_goals first | contradiction | (exfalso; omega) | skip
  exact bodyQ_mk (vs := [.mptr H.length 0 0]) (.inr rfl) (by rw [Try.results35]; simp only [go_sem, ↓reduceIte, simprocAttr, t3]) (Vs.refl _ _ _)
    ⟨⟨H.length, J.length, J.length + 1, J.length + 2⟩, ⟨w.cap, w.used, w.time, a', w.kr, w.ks, w.kt⟩, rfl,
      ⟨⟨⟨hqB, g1', g2', g3', by show J.length ≠ J.length + 1; omega, by show J.length ≠ J.length + 2; omega, by show J.length + 1 ≠ J.length + 2; omega⟩, hR.cap, hR.used, hR.time, hOB2, hR.mr, hR.ms, hR.mt⟩, hGB2, Nat.le_refl _, hGJ.len, by show H.length ≤ J.length + 1; omega, by show H.length ≤ J.length + 2; omega, fun j m e => Nat.le_trans hG.len (hnew j m e)⟩⟩

end Go.Proofs.Ytlhchnnfgppneaa.Ab
namespace Go.Proofs.Ytlhchnnfgppneaa.Ab
open Go Go.RowKit Go.Proofs
set_option linter.unusedSimpArgs false
set_option linter.unusedVariables false
attribute [local irreducible] Awp wpO thenQ blockQ bodyQ ACalls stepA

/-- what a program's function leaves -/
theorem FrO.keeps {K K' : Hp} {F : Ft} {w : Rw} {S : Bf} (hR : Rep K F w S) (hF : FrO F w K K') {j : Nat} {ob : AObj} (hj : K[j]? = some ob) (h1 : ∀ cs, ob ≠ .cells cs 109) (h2 : ∀ es, ob ≠ .amap es) (h3 : ∀ cs, ob ≠ .cells cs 2) : K'[j]? = some ob := by
  rw [hF.old j (List.getElem?_eq_some_iff.1 hj).1 (fun e => ?_) (fun e => ?_) (fun e => ?_) (fun e => ?_) (fun m e => ?_)]
  · exact hj
  · subst e; rw [hR.raw.hb] at hj; cases hj; exact h1 _ rfl
  · subst e; rw [hR.raw.hr] at hj; cases hj; exact h2 _ rfl
  · subst e; rw [hR.raw.hs] at hj; cases hj; exact h2 _ rfl
  · subst e; rw [hR.raw.ht] at hj; cases hj; exact h2 _ rfl
  · obtain ⟨v, hv, _⟩ := hR.ord.blk e
    rw [hv] at hj; cases hj; exact h3 _ rfl
theorem Rq.prog {K K' : Hp} {F : Ft} {w : Rw} {S : Bf} {q : Nat} {a : AV} {c t : Int} {L : List Hd} (hq : Rq K q a c t L) (hR : Rep K F w S) (hF : FrO F w K K') : Rq K' q a c t L :=
  ⟨hF.keeps hR hq.hb (fun cs e => by cases e) (fun es e => by cases e) (fun cs e => by cases e),
   hq.row.get fun o n v _ hb => hF.keeps hR hb (fun cs e => by cases e) (fun es e => by cases e) (fun cs e => by cases e)⟩
/-- what a reference's function leaves -/
structure FrR (q : Nat) (a : AV) (K K' : Hp) : Prop where
  len : K.length ≤ K'.length
  old : ∀ j, j < K.length → j ≠ q → (∀ m, a ≠ .msl j 0 m) → K'[j]? = K[j]?
theorem HdAt.blk {H : Hp} {a : AV} {L : List Hd} (h : HdAt H a L) {o m : Nat} (e : a = .msl o 0 m) : ∃ v, H[o]? = some (.cells (hds v) 53) := by
  cases h with
  | nil => cases e
  | row hb hn => cases e; exact ⟨_, hb⟩
theorem FrR.keeps {K K' : Hp} {q : Nat} {a : AV} {c t : Int} {L : List Hd} (hq : Rq K q a c t L) (hF : FrR q a K K') {j : Nat} {ob : AObj} (hj : K[j]? = some ob) (h1 : ∀ cs, ob ≠ .cells cs 73) (h2 : ∀ cs, ob ≠ .cells cs 53) : K'[j]? = some ob := by
  rw [hF.old j (List.getElem?_eq_some_iff.1 hj).1 (fun e => ?_) (fun m e => ?_)]
  · exact hj
  · subst e; rw [hq.hb] at hj; cases hj; exact h1 _ rfl
  · obtain ⟨v, hv⟩ := hq.row.blk e
    rw [hv] at hj; cases hj; exact h2 _ rfl
theorem Rep.ref {K K' : Hp} {F : Ft} {w : Rw} {S : Bf} {q : Nat} {a : AV} {c t : Int} {L : List Hd} (hR : Rep K F w S) (hq : Rq K q a c t L) (hF : FrR q a K K') : Rep K' F w S :=
  ⟨⟨hF.keeps hq hR.raw.hb (fun cs e => by cases e) (fun cs e => by cases e), hF.keeps hq hR.raw.hr (fun cs e => by cases e) (fun cs e => by cases e), hF.keeps hq hR.raw.hs (fun cs e => by cases e) (fun cs e => by cases e), hF.keeps hq hR.raw.ht (fun cs e => by cases e) (fun cs e => by cases e), hR.raw.rs, hR.raw.rt, hR.raw.st⟩,
   hR.cap, hR.used, hR.time, hR.ord.get fun o n v _ hb => hF.keeps hq hb (fun cs e => by cases e) (fun cs e => by cases e), hR.mr, hR.ms, hR.mt⟩

/-- a buffer of the program and one of the reference that hold the same -/
structure Both (K : Hp) (F : Ft) (w : Rw) (S : Bf) (q : Nat) (a : AV) : Prop where
  rep : Rep K F w S
  good : Good S
  rq : Rq K q a S.cap S.time S.L
theorem Both.grow {K K' : Hp} {F : Ft} {w : Rw} {S : Bf} {q : Nat} {a : AV} (h : Both K F w S q a) (hG : Grow K K') : Both K' F w S q a := ⟨h.rep.grow hG, h.good, h.rq.grow hG⟩

/-- a row that is frozen next -/
inductive Frz (K : Hp) : AV → List Int → Hp → Prop
  | fix (x : List Int) : Frz K (.rsl (ints x) false) x K
  | own {lo : Nat} {z : AV} {x : List Int} (h : Own lo 2 K z (ints x)) : Frz K z x (ownK K z)
theorem Awp.frz {P : Program} {n : Nat} {rd : Option Nat} {c : Code} {T : Env} {K K' : Hp} {Q : Exit → Env → Hp → Prop} (s : Nat) {z : AV} {x : List Int} (hz : Frz K z x K') (hs : T s = z)
    (h : Awp P n rd c (upd T s (.rsl (ints x) false)) K' Q) : Awp P n rd c T K Q := by
  cases hz with
  | fix =>
    have e : upd T s (.rsl (ints x) false) = T := by funext i; unfold upd; split <;> simp_all
    rwa [e] at h
  | own hO => exact Awp.frzOwn s hO hs h

/-- what a burst is refused for -/
def badB (tm room t wt : Int) : Prop := room < 0 ∨ room > 16777216 ∨ t < tm ∨ t > 1073741824 ∨ wt < 0 ∨ wt > 1073741824
instance (tm room t wt : Int) : Decidable (badB tm room t wt) := by unfold badB; infer_instance

set_option maxRecDepth 8000 in
set_option maxHeartbeats 4000000 in
theorem burstBad {H : Hp} {F : Ft} {w : Rw} (hR : RepW H F w) (room t wt : Int) (h : badB w.time room t wt) :
    ACalls Try.prog 29 [.mptr F.b 0 0, iv room, iv t, iv wt] H fun v1 H1 => v1 = .tup [nilS, iv 3] ∧ Grow H H1 := by
  have hA := (Grow.refl H).app [.cells [[iv room]] 2]
  have hRA := hR.grow hA
  have hv := valid_ok hRA
  have hbA := hRA.hb
  simp only [Rw.cs] at hbA
  have hq0 := get_new H (.cells [[iv room]] 2)
  have ho1 := fun H => outside_ok H room 0 16777216
  have ho2 := fun H => outside_ok H t w.time 1073741824
  have ho3 := fun H => outside_ok H wt 0 1073741824
  unfold badB at h
  by_cases b1 : room < 0 ∨ room > 16777216
  · rw [decide_eq_true b1] at ho1
    refine ACalls.of_body Try.func29 rfl (by kernel_rfl) (by rw [Try.ntmps29]; simp) ?_; rw [Try.ntmps29]
    repeat' (first | refine spD (fun _ => ?_) (fun _ => ?_) | refine spF (fun _ => ?_) (fun _ => ?_) | (apply gT; (exact rfl)) | (apply off; (exact rfl); (exact rfl)) | (apply condT; (exact rfl)) | (apply condF; (exact rfl)) | ((first | (apply stp0; (exact rfl); (exact rfl)) | (apply stpN0; (exact rfl)) | apply gT | apply condT); (first | (focus (simp only [go_sem, ↓reduceIte, simprocAttr, hbA, hq0] <;> rfl)) | exact rfl); (first | (fail_if_success (show okD _ _ _ _ _ _ _ _ _)) | (first | exact okT | exact okN | exact okE rfl))) | (apply calTo0; (exact rfl); (iterate 2 (simp only [go_sem, ↓reduceIte, simprocAttr, hbA, hq0]; rfl)); (first | exact hv | exact ho1 _ | exact ho2 _ | exact ho3 _); (first | exact okT | exact okN | exact okE rfl)) | refine thenQ_n ?_ | refine thenQ_r ?_ | refine thenQ_e ?_ | refine blockQ_n ?_ | refine blockQ_r ?_ | refine blockQ_e ?_ | (apply blockQ_o; (exact rfl)) | refine Awp.seq ?_ | refine Awp.skip ?_ | refine Awp.block ?_ | refine reg (fun s => s == 5 || s == 10) ?_ | (apply drwE mixed (fun s => s == 5 || s == 10); (kernel_rfl)) | refine fin ?_ | refine Awp.ret ?_ | refine Awp.exit ?_ | ((first | (apply off; (exact rfl)) | apply condF); (first | (focus (simp only [go_sem, ↓reduceIte, simprocAttr, hbA, hq0] <;> rfl)) | exact rfl)))
    all_goals first | contradiction | (exfalso; omega) | skip
    exact bodyQ_mk (vs := [nilS, iv 3]) (.inr rfl) (by rw [Try.results29]; simp only [go_sem, ↓reduceIte, simprocAttr]) (Vs.refl _ _ _) ⟨rfl, hA⟩
  · rw [decide_eq_false b1] at ho1
    by_cases b2 : t < w.time ∨ t > 1073741824
    · rw [decide_eq_true b2] at ho2
      refine ACalls.of_body Try.func29 rfl (by kernel_rfl) (by rw [Try.ntmps29]; simp) ?_; rw [Try.ntmps29]
      repeat' (first | refine spD (fun _ => ?_) (fun _ => ?_) | refine spF (fun _ => ?_) (fun _ => ?_) | (apply gT; (exact rfl)) | (apply off; (exact rfl); (exact rfl)) | (apply condT; (exact rfl)) | (apply condF; (exact rfl)) | ((first | (apply stp0; (exact rfl); (exact rfl)) | (apply stpN0; (exact rfl)) | apply gT | apply condT); (first | (focus (simp only [go_sem, ↓reduceIte, simprocAttr, hbA, hq0] <;> rfl)) | exact rfl); (first | (fail_if_success (show okD _ _ _ _ _ _ _ _ _)) | (first | exact okT | exact okN | exact okE rfl))) | (apply calTo0; (exact rfl); (iterate 2 (simp only [go_sem, ↓reduceIte, simprocAttr, hbA, hq0]; rfl)); (first | exact hv | exact ho1 _ | exact ho2 _ | exact ho3 _); (first | exact okT | exact okN | exact okE rfl)) | refine thenQ_n ?_ | refine thenQ_r ?_ | refine thenQ_e ?_ | refine blockQ_n ?_ | refine blockQ_r ?_ | refine blockQ_e ?_ | (apply blockQ_o; (exact rfl)) | refine Awp.seq ?_ | refine Awp.skip ?_ | refine Awp.block ?_ | refine reg (fun s => s == 5 || s == 10) ?_ | (apply drwE mixed (fun s => s == 5 || s == 10); (kernel_rfl)) | refine fin ?_ | refine Awp.ret ?_ | refine Awp.exit ?_ | ((first | (apply off; (exact rfl)) | apply condF); (first | (focus (simp only [go_sem, ↓reduceIte, simprocAttr, hbA, hq0] <;> rfl)) | exact rfl)))
      all_goals first | contradiction | (exfalso; omega) | skip
      exact bodyQ_mk (vs := [nilS, iv 3]) (.inr rfl) (by rw [Try.results29]; simp only [go_sem, ↓reduceIte, simprocAttr]) (Vs.refl _ _ _) ⟨rfl, hA⟩
    · rw [decide_eq_false b2] at ho2
      rw [decide_eq_true (by omega)] at ho3
      refine ACalls.of_body Try.func29 rfl (by kernel_rfl) (by rw [Try.ntmps29]; simp) ?_; rw [Try.ntmps29]
      repeat' (first | refine spD (fun _ => ?_) (fun _ => ?_) | refine spF (fun _ => ?_) (fun _ => ?_) | (apply gT; (exact rfl)) | (apply off; (exact rfl); (exact rfl)) | (apply condT; (exact rfl)) | (apply condF; (exact rfl)) | ((first | (apply stp0; (exact rfl); (exact rfl)) | (apply stpN0; (exact rfl)) | apply gT | apply condT); (first | (focus (simp only [go_sem, ↓reduceIte, simprocAttr, hbA, hq0] <;> rfl)) | exact rfl); (first | (fail_if_success (show okD _ _ _ _ _ _ _ _ _)) | (first | exact okT | exact okN | exact okE rfl))) | (apply calTo0; (exact rfl); (iterate 2 (simp only [go_sem, ↓reduceIte, simprocAttr, hbA, hq0]; rfl)); (first | exact hv | exact ho1 _ | exact ho2 _ | exact ho3 _); (first | exact okT | exact okN | exact okE rfl)) | refine thenQ_n ?_ | refine thenQ_r ?_ | refine thenQ_e ?_ | refine blockQ_n ?_ | refine blockQ_r ?_ | refine blockQ_e ?_ | (apply blockQ_o; (exact rfl)) | refine Awp.seq ?_ | refine Awp.skip ?_ | refine Awp.block ?_ | refine reg (fun s => s == 5 || s == 10) ?_ | (apply drwE mixed (fun s => s == 5 || s == 10); (kernel_rfl)) | refine fin ?_ | refine Awp.ret ?_ | refine Awp.exit ?_ | ((first | (apply off; (exact rfl)) | apply condF); (first | (focus (simp only [go_sem, ↓reduceIte, simprocAttr, hbA, hq0] <;> rfl)) | exact rfl)))
      all_goals first | contradiction | (exfalso; omega) | skip
      exact bodyQ_mk (vs := [nilS, iv 3]) (.inr rfl) (by rw [Try.results29]; simp only [go_sem, ↓reduceIte, simprocAttr]) (Vs.refl _ _ _) ⟨rfl, hA⟩

set_option maxRecDepth 8000 in
set_option maxHeartbeats 4000000 in
theorem rburstBad {H : Hp} {q : Nat} {a : AV} {c tm : Int} {L : List Hd} (hQ : Rq H q a c tm L) (room t wt : Int) (h : badB tm room t wt) :
    ACalls Try.prog 32 [.mptr q 0 0, iv room, iv t, iv wt] H fun v1 H1 => v1 = .tup [nilS, iv 3] ∧ Grow H H1 := by
  have hb := hQ.hb
  unfold badB at h
  by_cases b1 : room < 0
  · refine ACalls.of_body Try.func32 rfl (by kernel_rfl) (by rw [Try.ntmps32]; simp) ?_; rw [Try.ntmps32]
    repeat' (first | refine spD (fun _ => ?_) (fun _ => ?_) | refine spF (fun _ => ?_) (fun _ => ?_) | (apply gT; (exact rfl)) | (apply off; (exact rfl); (exact rfl)) | (apply condT; (exact rfl)) | (apply condF; (exact rfl)) | ((first | (apply stp0; (exact rfl); (exact rfl)) | (apply stpN0; (exact rfl)) | apply gT | apply condT); (first | (focus (simp only [go_sem, ↓reduceIte, simprocAttr, hb, b1] <;> rfl)) | exact rfl); (first | (fail_if_success (show okD _ _ _ _ _ _ _ _ _)) | (first | exact okT | exact okN | exact okE rfl))) | refine thenQ_n ?_ | refine thenQ_r ?_ | refine thenQ_e ?_ | refine blockQ_n ?_ | refine blockQ_r ?_ | refine blockQ_e ?_ | (apply blockQ_o; (exact rfl)) | refine Awp.seq ?_ | refine Awp.skip ?_ | refine Awp.block ?_ | refine reg (fun s => s == 12) ?_ | (apply drwE mixed (fun s => s == 12); (kernel_rfl)) | refine fin ?_ | refine Awp.ret ?_ | refine Awp.exit ?_ | ((first | (apply off; (exact rfl)) | apply condF); (first | (focus (simp only [go_sem, ↓reduceIte, simprocAttr, hb, b1] <;> rfl)) | exact rfl)))
    all_goals first | contradiction | (exfalso; omega) | skip
    exact bodyQ_mk (vs := [nilS, iv 3]) (.inr rfl) (by rw [Try.results32]; simp only [go_sem, ↓reduceIte, simprocAttr]) (Vs.refl _ _ _) ⟨rfl, Grow.refl _⟩
  by_cases b2 : room > 16777216
  · refine ACalls.of_body Try.func32 rfl (by kernel_rfl) (by rw [Try.ntmps32]; simp) ?_; rw [Try.ntmps32]
    repeat' (first | refine spD (fun _ => ?_) (fun _ => ?_) | refine spF (fun _ => ?_) (fun _ => ?_) | (apply gT; (exact rfl)) | (apply off; (exact rfl); (exact rfl)) | (apply condT; (exact rfl)) | (apply condF; (exact rfl)) | ((first | (apply stp0; (exact rfl); (exact rfl)) | (apply stpN0; (exact rfl)) | apply gT | apply condT); (first | (focus (simp only [go_sem, ↓reduceIte, simprocAttr, hb, b1, b2] <;> rfl)) | exact rfl); (first | (fail_if_success (show okD _ _ _ _ _ _ _ _ _)) | (first | exact okT | exact okN | exact okE rfl))) | refine thenQ_n ?_ | refine thenQ_r ?_ | refine thenQ_e ?_ | refine blockQ_n ?_ | refine blockQ_r ?_ | refine blockQ_e ?_ | (apply blockQ_o; (exact rfl)) | refine Awp.seq ?_ | refine Awp.skip ?_ | refine Awp.block ?_ | refine reg (fun s => s == 12) ?_ | (apply drwE mixed (fun s => s == 12); (kernel_rfl)) | refine fin ?_ | refine Awp.ret ?_ | refine Awp.exit ?_ | ((first | (apply off; (exact rfl)) | apply condF); (first | (focus (simp only [go_sem, ↓reduceIte, simprocAttr, hb, b1, b2] <;> rfl)) | exact rfl)))
    all_goals first | contradiction | (exfalso; omega) | skip
    exact bodyQ_mk (vs := [nilS, iv 3]) (.inr rfl) (by rw [Try.results32]; simp only [go_sem, ↓reduceIte, simprocAttr]) (Vs.refl _ _ _) ⟨rfl, Grow.refl _⟩
  by_cases b3 : t < tm
  · refine ACalls.of_body Try.func32 rfl (by kernel_rfl) (by rw [Try.ntmps32]; simp) ?_; rw [Try.ntmps32]
    repeat' (first | refine spD (fun _ => ?_) (fun _ => ?_) | refine spF (fun _ => ?_) (fun _ => ?_) | (apply gT; (exact rfl)) | (apply off; (exact rfl); (exact rfl)) | (apply condT; (exact rfl)) | (apply condF; (exact rfl)) | ((first | (apply stp0; (exact rfl); (exact rfl)) | (apply stpN0; (exact rfl)) | apply gT | apply condT); (first | (focus (simp only [go_sem, ↓reduceIte, simprocAttr, hb, b1, b2, b3] <;> rfl)) | exact rfl); (first | (fail_if_success (show okD _ _ _ _ _ _ _ _ _)) | (first | exact okT | exact okN | exact okE rfl))) | refine thenQ_n ?_ | refine thenQ_r ?_ | refine thenQ_e ?_ | refine blockQ_n ?_ | refine blockQ_r ?_ | refine blockQ_e ?_ | (apply blockQ_o; (exact rfl)) | refine Awp.seq ?_ | refine Awp.skip ?_ | refine Awp.block ?_ | refine reg (fun s => s == 12) ?_ | (apply drwE mixed (fun s => s == 12); (kernel_rfl)) | refine fin ?_ | refine Awp.ret ?_ | refine Awp.exit ?_ | ((first | (apply off; (exact rfl)) | apply condF); (first | (focus (simp only [go_sem, ↓reduceIte, simprocAttr, hb, b1, b2, b3] <;> rfl)) | exact rfl)))
    all_goals first | contradiction | (exfalso; omega) | skip
    exact bodyQ_mk (vs := [nilS, iv 3]) (.inr rfl) (by rw [Try.results32]; simp only [go_sem, ↓reduceIte, simprocAttr]) (Vs.refl _ _ _) ⟨rfl, Grow.refl _⟩
  by_cases b4 : t > 1073741824
  · refine ACalls.of_body Try.func32 rfl (by kernel_rfl) (by rw [Try.ntmps32]; simp) ?_; rw [Try.ntmps32]
    repeat' (first | refine spD (fun _ => ?_) (fun _ => ?_) | refine spF (fun _ => ?_) (fun _ => ?_) | (apply gT; (exact rfl)) | (apply off; (exact rfl); (exact rfl)) | (apply condT; (exact rfl)) | (apply condF; (exact rfl)) | ((first | (apply stp0; (exact rfl); (exact rfl)) | (apply stpN0; (exact rfl)) | apply gT | apply condT); (first | (focus (simp only [go_sem, ↓reduceIte, simprocAttr, hb, b1, b2, b3, b4] <;> rfl)) | exact rfl); (first | (fail_if_success (show okD _ _ _ _ _ _ _ _ _)) | (first | exact okT | exact okN | exact okE rfl))) | refine thenQ_n ?_ | refine thenQ_r ?_ | refine thenQ_e ?_ | refine blockQ_n ?_ | refine blockQ_r ?_ | refine blockQ_e ?_ | (apply blockQ_o; (exact rfl)) | refine Awp.seq ?_ | refine Awp.skip ?_ | refine Awp.block ?_ | refine reg (fun s => s == 12) ?_ | (apply drwE mixed (fun s => s == 12); (kernel_rfl)) | refine fin ?_ | refine Awp.ret ?_ | refine Awp.exit ?_ | ((first | (apply off; (exact rfl)) | apply condF); (first | (focus (simp only [go_sem, ↓reduceIte, simprocAttr, hb, b1, b2, b3, b4] <;> rfl)) | exact rfl)))
    all_goals first | contradiction | (exfalso; omega) | skip
    exact bodyQ_mk (vs := [nilS, iv 3]) (.inr rfl) (by rw [Try.results32]; simp only [go_sem, ↓reduceIte, simprocAttr]) (Vs.refl _ _ _) ⟨rfl, Grow.refl _⟩
  by_cases b5 : wt < 0
  · refine ACalls.of_body Try.func32 rfl (by kernel_rfl) (by rw [Try.ntmps32]; simp) ?_; rw [Try.ntmps32]
    repeat' (first | refine spD (fun _ => ?_) (fun _ => ?_) | refine spF (fun _ => ?_) (fun _ => ?_) | (apply gT; (exact rfl)) | (apply off; (exact rfl); (exact rfl)) | (apply condT; (exact rfl)) | (apply condF; (exact rfl)) | ((first | (apply stp0; (exact rfl); (exact rfl)) | (apply stpN0; (exact rfl)) | apply gT | apply condT); (first | (focus (simp only [go_sem, ↓reduceIte, simprocAttr, hb, b1, b2, b3, b4, b5] <;> rfl)) | exact rfl); (first | (fail_if_success (show okD _ _ _ _ _ _ _ _ _)) | (first | exact okT | exact okN | exact okE rfl))) | refine thenQ_n ?_ | refine thenQ_r ?_ | refine thenQ_e ?_ | refine blockQ_n ?_ | refine blockQ_r ?_ | refine blockQ_e ?_ | (apply blockQ_o; (exact rfl)) | refine Awp.seq ?_ | refine Awp.skip ?_ | refine Awp.block ?_ | refine reg (fun s => s == 12) ?_ | (apply drwE mixed (fun s => s == 12); (kernel_rfl)) | refine fin ?_ | refine Awp.ret ?_ | refine Awp.exit ?_ | ((first | (apply off; (exact rfl)) | apply condF); (first | (focus (simp only [go_sem, ↓reduceIte, simprocAttr, hb, b1, b2, b3, b4, b5] <;> rfl)) | exact rfl)))
    all_goals first | contradiction | (exfalso; omega) | skip
    exact bodyQ_mk (vs := [nilS, iv 3]) (.inr rfl) (by rw [Try.results32]; simp only [go_sem, ↓reduceIte, simprocAttr]) (Vs.refl _ _ _) ⟨rfl, Grow.refl _⟩
  have b6 : wt > 1073741824 := by omega
  refine ACalls.of_body Try.func32 rfl (by kernel_rfl) (by rw [Try.ntmps32]; simp) ?_; rw [Try.ntmps32]
  repeat' (first | refine spD (fun _ => ?_) (fun _ => ?_) | refine spF (fun _ => ?_) (fun _ => ?_) | (apply gT; (exact rfl)) | (apply off; (exact rfl); (exact rfl)) | (apply condT; (exact rfl)) | (apply condF; (exact rfl)) | ((first | (apply stp0; (exact rfl); (exact rfl)) | (apply stpN0; (exact rfl)) | apply gT | apply condT); (first | (focus (simp only [go_sem, ↓reduceIte, simprocAttr, hb, b1, b2, b3, b4, b5, b6] <;> rfl)) | exact rfl); (first | (fail_if_success (show okD _ _ _ _ _ _ _ _ _)) | (first | exact okT | exact okN | exact okE rfl))) | refine thenQ_n ?_ | refine thenQ_r ?_ | refine thenQ_e ?_ | refine blockQ_n ?_ | refine blockQ_r ?_ | refine blockQ_e ?_ | (apply blockQ_o; (exact rfl)) | refine Awp.seq ?_ | refine Awp.skip ?_ | refine Awp.block ?_ | refine reg (fun s => s == 12) ?_ | (apply drwE mixed (fun s => s == 12); (kernel_rfl)) | refine fin ?_ | refine Awp.ret ?_ | refine Awp.exit ?_ | ((first | (apply off; (exact rfl)) | apply condF); (first | (focus (simp only [go_sem, ↓reduceIte, simprocAttr, hb, b1, b2, b3, b4, b5, b6] <;> rfl)) | exact rfl)))
  all_goals first | contradiction | (exfalso; omega) | skip
  exact bodyQ_mk (vs := [nilS, iv 3]) (.inr rfl) (by rw [Try.results32]; simp only [go_sem, ↓reduceIte, simprocAttr]) (Vs.refl _ _ _) ⟨rfl, Grow.refl _⟩

set_option maxRecDepth 8000 in
theorem rAckBad (H : Hp) (q : Nat) (s : List (Int × Int)) (ex : Bool) (hc : setC s ≠ 0) : ACalls Try.prog 34 [.mptr q 0 0, .rsl (sps s) ex] H fun v1 H1 => v1 = .tup [iv 0, iv (setC s)] ∧ H1 = H := by
  have hck := rcheckSet_ok H s ex
  refine ACalls.of_body Try.func34 rfl (by kernel_rfl) (by rw [Try.ntmps34]; simp) ?_; rw [Try.ntmps34]
  repeat' (first | refine spD (fun _ => ?_) (fun _ => ?_) | refine spF (fun _ => ?_) (fun _ => ?_) | (apply gT; (exact rfl)) | (apply off; (exact rfl); (exact rfl)) | (apply condT; (exact rfl)) | (apply condF; (exact rfl)) | ((first | (apply stp0; (exact rfl); (exact rfl)) | (apply stpN0; (exact rfl)) | apply gT | apply condT); (first | (focus (simp only [go_sem, ↓reduceIte, simprocAttr, hc] <;> rfl)) | exact rfl); (first | (fail_if_success (show okD _ _ _ _ _ _ _ _ _)) | (first | exact okT | exact okN | exact okE rfl))) | (apply calTo0; (exact rfl); (iterate 2 (simp only [go_sem, ↓reduceIte, simprocAttr, hc]; rfl)); (first | exact hck); (first | exact okT | exact okN | exact okE rfl)) | refine thenQ_n ?_ | refine thenQ_r ?_ | refine thenQ_e ?_ | refine blockQ_n ?_ | refine blockQ_r ?_ | refine blockQ_e ?_ | (apply blockQ_o; (exact rfl)) | refine Awp.seq ?_ | refine Awp.skip ?_ | refine Awp.block ?_ | refine reg (fun s => false) ?_ | (apply drwE mixed (fun s => false); (kernel_rfl)) | refine fin ?_ | refine Awp.ret ?_ | refine Awp.exit ?_ | ((first | (apply off; (exact rfl)) | apply condF); (first | (focus (simp only [go_sem, ↓reduceIte, simprocAttr, hc] <;> rfl)) | exact rfl)))
  all_goals first | contradiction | (exfalso; omega) | skip
  exact bodyQ_mk (vs := [iv 0, iv (setC s)]) (.inr rfl) (by rw [Try.results34]; simp only [go_sem, ↓reduceIte, simprocAttr]) (Vs.refl _ _ _) ⟨rfl, rfl⟩

end Go.Proofs.Ytlhchnnfgppneaa.Ab
namespace Go.Proofs.Ytlhchnnfgppneaa.Ab
open Go Go.RowKit Go.Proofs
set_option linter.unusedSimpArgs false
set_option linter.unusedVariables false
attribute [local irreducible] Awp wpO thenQ blockQ bodyQ ACalls stepA

set_option maxRecDepth 8000 in
theorem heldM_ok {H : Hp} {a : AV} {L : List Hd} (hA : HdAt H a L) (ex : Bool) (hm : L.length ≤ maxLen) : CallsTo Try.prog 25 [.rsl (hds L) ex, a] H (bv true) H := by
  have hvl := hds_len L
  obtain ⟨L', hL'⟩ : ∃ L', L' = L := ⟨_, rfl⟩
  rw [← hL'] at hA
  cases hA with
  | nil =>
    subst hL'
    refine ACalls.of_body Try.func25 rfl (by kernel_rfl) (by rw [Try.ntmps25]; simp) ?_; rw [Try.ntmps25]
    repeat' (first | refine spD (fun _ => ?_) (fun _ => ?_) | refine spF (fun _ => ?_) (fun _ => ?_) | (apply gT; (exact rfl)) | (apply off; (exact rfl); (exact rfl)) | (apply condT; (exact rfl)) | (apply condF; (exact rfl)) | ((first | (apply stp0; (exact rfl); (exact rfl)) | (apply stpN0; (exact rfl)) | apply gT | apply condT | ((first | apply bodyQ_d0 | apply bodyQ_d1 | apply bodyQ_d2 | apply bodyQ_d3 | apply bodyQ_d4); (exact .inr rfl); (rw [Try.results25]))); (first | (focus (simp only [go_sem, ↓reduceIte, simprocAttr, hvl] <;> rfl)) | exact rfl); (first | (fail_if_success (show okD _ _ _ _ _ _ _ _ _)) | (first | exact okT | exact okN | exact okE rfl)); (first | (fail_if_success (show Bel _ _)) | (focus first | exact .val _ | (simp [oneOf, Bel_iff_tup, Bel_iff_agg, Bel_iff_rsl, Bel_iff_fn, Bel_iff_rptr, Bel_val]; done)))) | refine thenQ_n ?_ | refine thenQ_r ?_ | refine thenQ_e ?_ | refine blockQ_n ?_ | refine blockQ_r ?_ | refine blockQ_e ?_ | (apply blockQ_o; (exact rfl)) | refine Awp.seq ?_ | refine Awp.skip ?_ | refine Awp.block ?_ | refine reg (fun s => false) ?_ | (apply drwE mixed (fun s => false); (kernel_rfl)) | refine fin ?_ | refine Awp.ret ?_ | refine Awp.exit ?_ | ((first | (apply off; (exact rfl)) | apply condF); (first | (focus (simp only [go_sem, ↓reduceIte, simprocAttr, hvl] <;> rfl)) | exact rfl)))
    all_goals first | contradiction | (exfalso; omega) | skip
    refine Awp.loop (ι := Nat) (fun _ T' K => T' 5 = iv 0 ∧ T' 0 = .rsl (hds []) ex ∧ K = H) (fun m => m) 0 ?_ ?_
    · refine ⟨?_, ?_, rfl⟩
      · (first | (focus (simp only [go_sem, ↓reduceIte, simprocAttr]; first | done | rfl)) | rfl)
      · (first | (focus (simp only [go_sem, ↓reduceIte, simprocAttr]; first | done | rfl)) | rfl)
    rintro i T K ⟨t5, t0, hK⟩
    rw [hK]
    repeat' (first | refine spD (fun _ => ?_) (fun _ => ?_) | refine spF (fun _ => ?_) (fun _ => ?_) | (apply gT; (exact rfl)) | (apply off; (exact rfl); (exact rfl)) | (apply condT; (exact rfl)) | (apply condF; (exact rfl)) | ((first | (apply stp0; (exact rfl); (exact rfl)) | (apply stpN0; (exact rfl)) | apply gT | apply condT | ((first | apply bodyQ_d0 | apply bodyQ_d1 | apply bodyQ_d2 | apply bodyQ_d3 | apply bodyQ_d4); (exact .inr rfl); (rw [Try.results25]))); (first | (focus (simp only [go_sem, ↓reduceIte, simprocAttr, t5, t0, hvl] <;> rfl)) | exact rfl); (first | (fail_if_success (show okD _ _ _ _ _ _ _ _ _)) | (first | exact okT | exact okN | exact okE rfl)); (first | (fail_if_success (show Bel _ _)) | (focus first | exact .val _ | (simp [oneOf, Bel_iff_tup, Bel_iff_agg, Bel_iff_rsl, Bel_iff_fn, Bel_iff_rptr, Bel_val]; done)))) | refine thenQ_n ?_ | refine thenQ_r ?_ | refine thenQ_e ?_ | refine blockQ_n ?_ | refine blockQ_r ?_ | refine blockQ_e ?_ | (apply blockQ_o; (exact rfl)) | refine Awp.seq ?_ | refine Awp.skip ?_ | refine Awp.block ?_ | refine reg (fun s => false) ?_ | (apply drwE mixed (fun s => false); (kernel_rfl)) | refine fin ?_ | refine Awp.ret ?_ | refine Awp.exit ?_ | ((first | (apply off; (exact rfl)) | apply condF); (first | (focus (simp only [go_sem, ↓reduceIte, simprocAttr, t5, t0, hvl] <;> rfl)) | exact rfl)))
    all_goals first | contradiction | (exfalso; omega) | rfl | skip
  | row hb hn =>
    rename_i o n v
    have hln : (v.take n).length = n := by rw [List.length_take, Nat.min_eq_left hn]
    have hvv := hds_len v
    subst hL'
    rw [hln] at hvl hm
    refine ACalls.of_body Try.func25 rfl (by kernel_rfl) (by rw [Try.ntmps25]; simp) ?_; rw [Try.ntmps25]
    repeat' (first | refine spD (fun _ => ?_) (fun _ => ?_) | refine spF (fun _ => ?_) (fun _ => ?_) | (apply gT; (exact rfl)) | (apply off; (exact rfl); (exact rfl)) | (apply condT; (exact rfl)) | (apply condF; (exact rfl)) | ((first | (apply stp0; (exact rfl); (exact rfl)) | (apply stpN0; (exact rfl)) | apply gT | apply condT | ((first | apply bodyQ_d0 | apply bodyQ_d1 | apply bodyQ_d2 | apply bodyQ_d3 | apply bodyQ_d4); (exact .inr rfl); (rw [Try.results25]))); (first | (focus (simp only [go_sem, ↓reduceIte, simprocAttr, hvl] <;> rfl)) | exact rfl); (first | (fail_if_success (show okD _ _ _ _ _ _ _ _ _)) | (first | exact okT | exact okN | exact okE rfl)); (first | (fail_if_success (show Bel _ _)) | (focus first | exact .val _ | (simp [oneOf, Bel_iff_tup, Bel_iff_agg, Bel_iff_rsl, Bel_iff_fn, Bel_iff_rptr, Bel_val]; done)))) | refine thenQ_n ?_ | refine thenQ_r ?_ | refine thenQ_e ?_ | refine blockQ_n ?_ | refine blockQ_r ?_ | refine blockQ_e ?_ | (apply blockQ_o; (exact rfl)) | refine Awp.seq ?_ | refine Awp.skip ?_ | refine Awp.block ?_ | refine reg (fun s => false) ?_ | (apply drwE mixed (fun s => false); (kernel_rfl)) | refine fin ?_ | refine Awp.ret ?_ | refine Awp.exit ?_ | ((first | (apply off; (exact rfl)) | apply condF); (first | (focus (simp only [go_sem, ↓reduceIte, simprocAttr, hvl] <;> rfl)) | exact rfl)))
    all_goals first | contradiction | (exfalso; omega) | skip
    refine Awp.loop (ι := Nat) (fun i T' K => i ≤ n ∧ T' 5 = iv i ∧ T' 0 = .rsl (hds (v.take n)) ex ∧ T' 1 = .msl o 0 n ∧ K = H) (fun i => n - i) 0 ?_ ?_
    · refine ⟨Nat.zero_le _, ?_, ?_, ?_, rfl⟩
      · (first | (focus (simp only [go_sem, ↓reduceIte, simprocAttr]; first | done | rfl)) | rfl)
      · (first | (focus (simp only [go_sem, ↓reduceIte, simprocAttr]; first | done | rfl)) | rfl)
      · (first | (focus (simp only [go_sem, ↓reduceIte, simprocAttr]; first | done | rfl)) | rfl)
    rintro i T K ⟨hi, t5, t0, t1, hK⟩
    rw [hK]
    by_cases hlt : i < n
    · obtain ⟨h, hh⟩ := nth (l := v.take n) (i := i) (by omega)
      have hc := hds_at hh
      have hcv : (hds v)[i]? = some [iv h.r.id, iv h.r.cls, iv h.r.made, iv h.r.size, iv h.r.pk, bv h.sm, iv h.sent] := by
        have h2 := hh
        rw [List.getElem?_take, if_pos hlt] at h2
        exact hds_at h2
      have hw := wsucc hlt hm
      repeat' (first | refine spD (fun _ => ?_) (fun _ => ?_) | refine spF (fun _ => ?_) (fun _ => ?_) | (apply gT; (exact rfl)) | (apply off; (exact rfl); (exact rfl)) | (apply condT; (exact rfl)) | (apply condF; (exact rfl)) | ((first | (apply stp0; (exact rfl); (exact rfl)) | (apply stpN0; (exact rfl)) | apply gT | apply condT | ((first | apply bodyQ_d0 | apply bodyQ_d1 | apply bodyQ_d2 | apply bodyQ_d3 | apply bodyQ_d4); (exact .inr rfl); (rw [Try.results25]))); (first | (focus (simp only [go_sem, ↓reduceIte, simprocAttr, Int.ofNat_lt.2 hlt, t5, t0, t1, hvl, hvv, hb, hc, hcv, hlt, hw, Nat.zero_add, beq_self_eq_true, Bool.and_self, Bool.not_true] <;> rfl)) | exact rfl); (first | (fail_if_success (show okD _ _ _ _ _ _ _ _ _)) | (first | exact okT | exact okN | exact okE rfl)); (first | (fail_if_success (show Bel _ _)) | (focus first | exact .val _ | (simp [oneOf, Bel_iff_tup, Bel_iff_agg, Bel_iff_rsl, Bel_iff_fn, Bel_iff_rptr, Bel_val]; done)))) | refine thenQ_n ?_ | refine thenQ_r ?_ | refine thenQ_e ?_ | refine blockQ_n ?_ | refine blockQ_r ?_ | refine blockQ_e ?_ | (apply blockQ_o; (exact rfl)) | refine Awp.seq ?_ | refine Awp.skip ?_ | refine Awp.block ?_ | refine reg (fun s => false) ?_ | (apply drwE mixed (fun s => false); (kernel_rfl)) | refine fin ?_ | refine Awp.ret ?_ | refine Awp.exit ?_ | ((first | (apply off; (exact rfl)) | apply condF); (first | (focus (simp only [go_sem, ↓reduceIte, simprocAttr, Int.ofNat_lt.2 hlt, t5, t0, t1, hvl, hvv, hb, hc, hcv, hlt, hw, Nat.zero_add, beq_self_eq_true, Bool.and_self, Bool.not_true] <;> rfl)) | exact rfl)))
      all_goals first | contradiction | (exfalso; omega) | skip
      refine ⟨i + 1, ⟨hlt, ?_, ?_, ?_, rfl⟩, Nat.sub_lt_sub_left hlt (Nat.lt_succ_self i)⟩
      · (first | (focus (simp only [go_sem, ↓reduceIte, simprocAttr, hw]; first | done | rfl)) | rfl)
      · (first | (focus (simp only [go_sem, ↓reduceIte, simprocAttr, t0]; first | done | rfl)) | rfl)
      · (first | (focus (simp only [go_sem, ↓reduceIte, simprocAttr, t1]; first | done | rfl)) | rfl)
    · have hie : i = n := Nat.le_antisymm hi (Nat.not_lt.1 hlt)
      subst hie
      repeat' (first | refine spD (fun _ => ?_) (fun _ => ?_) | refine spF (fun _ => ?_) (fun _ => ?_) | (apply gT; (exact rfl)) | (apply off; (exact rfl); (exact rfl)) | (apply condT; (exact rfl)) | (apply condF; (exact rfl)) | ((first | (apply stp0; (exact rfl); (exact rfl)) | (apply stpN0; (exact rfl)) | apply gT | apply condT | ((first | apply bodyQ_d0 | apply bodyQ_d1 | apply bodyQ_d2 | apply bodyQ_d3 | apply bodyQ_d4); (exact .inr rfl); (rw [Try.results25]))); (first | (focus (simp only [go_sem, ↓reduceIte, simprocAttr, Int.lt_irrefl, t5, t0, t1, hvl] <;> rfl)) | exact rfl); (first | (fail_if_success (show okD _ _ _ _ _ _ _ _ _)) | (first | exact okT | exact okN | exact okE rfl)); (first | (fail_if_success (show Bel _ _)) | (focus first | exact .val _ | (simp [oneOf, Bel_iff_tup, Bel_iff_agg, Bel_iff_rsl, Bel_iff_fn, Bel_iff_rptr, Bel_val]; done)))) | refine thenQ_n ?_ | refine thenQ_r ?_ | refine thenQ_e ?_ | refine blockQ_n ?_ | refine blockQ_r ?_ | refine blockQ_e ?_ | (apply blockQ_o; (exact rfl)) | refine Awp.seq ?_ | refine Awp.skip ?_ | refine Awp.block ?_ | refine reg (fun s => false) ?_ | (apply drwE mixed (fun s => false); (kernel_rfl)) | refine fin ?_ | refine Awp.ret ?_ | refine Awp.exit ?_ | ((first | (apply off; (exact rfl)) | apply condF); (first | (focus (simp only [go_sem, ↓reduceIte, simprocAttr, Int.lt_irrefl, t5, t0, t1, hvl] <;> rfl)) | exact rfl)))
      all_goals first | contradiction | (exfalso; omega) | rfl | skip

theorem put_cap {S : Bf} {r : Item} (hg : Good S) (hl : S.L.length ≤ 255) : (putR S r).1.cap = S.cap := by
  by_cases h : putE S r = 0
  · exact (keptL hg hl h).2.1
  · have : putR S r = (S, []) := by unfold putR; rw [if_neg h]
    rw [this]
theorem put_len {S : Bf} {r : Item} (hg : Good S) (hl : S.L.length ≤ 255) : (putR S r).2.length ≤ 300 := by
  by_cases h : putE S r = 0
  · have := (keptL hg hl h).2.2.2; omega
  · have : putR S r = (S, []) := by unfold putR; rw [if_neg h]
    rw [this]; simp
theorem kinds {k : Int} (h0 : 0 ≤ k) (h1 : k ≤ 255) : (k.tmod 4 = 0 ∨ k.tmod 4 = 1 ∨ k.tmod 4 = 2 ∨ k.tmod 4 = 3) ∧ IntKind.u8.wrap (k.tmod 4) = k.tmod 4 := by
  rw [Int.tmod_eq_emod_of_nonneg h0]
  refine ⟨by omega, ?_⟩
  have : k % 4 = 0 ∨ k % 4 = 1 ∨ k % 4 = 2 ∨ k % 4 = 3 := by omega
  rcases this with h | h | h | h <;> rw [h] <;> rfl

theorem longB_no {l : List Ax} {n : Int} (h : longB l n = false) : (l.length : Int) ≤ n ∧ ∀ a ∈ l, a.s.length ≤ 30 := by
  unfold longB at h
  rw [Bool.or_eq_false_iff] at h
  refine ⟨by have := of_decide_eq_false h.1; omega, fun a ha => ?_⟩
  have := List.any_eq_false.1 h.2 a ha
  simp at this; omega

/-- what a round leaves -/
def Q30 (l : List Ax) (ex : Bool) (q i : Nat) (e : Exit) (T' : Env) (K' : Hp) : Prop :=
  e = .normal ∧ (T' 1 = .rsl (axs l) ex ∧ T' 7 = .mptr q 0 0 ∧ T' 9 = iv i) ∧ ∃ F w S a x err z1 z2 K1 K2, T' 5 = .mptr F.b 0 0 ∧ T' 6 = iv err ∧ T' 8 = iv err ∧ T' 11 = z1 ∧ T' 12 = z2 ∧ Frz K' z1 x K1 ∧ Frz K1 z2 x K2 ∧ Both K2 F w S q a ∧ S.L.length ≤ i + 1 ∧ 0 ≤ S.time ∧ x.length ≤ 300
/-- ahead of a round -/
structure Hd14 (l : List Ax) (ex : Bool) (q i x : Nat) (p : Ax) (F : Ft) (err : Int) (T : Env) : Prop where
  t1 : T 1 = .rsl (axs l) ex
  t5 : T 5 = .mptr F.b 0 0
  t6 : T 6 = iv err
  t7 : T 7 = .mptr q 0 0
  t8 : T 8 = iv err
  t9 : T 9 = iv i
  t10 : T 10 = .mptr x 0 0
  t11 : T 11 = nilS
  t12 : T 12 = nilS

end Go.Proofs.Ytlhchnnfgppneaa.Ab
namespace Go.Proofs.Ytlhchnnfgppneaa.Ab
open Go Go.RowKit Go.Proofs
set_option linter.unusedSimpArgs false
set_option linter.unusedVariables false
attribute [local irreducible] Awp wpO thenQ blockQ bodyQ ACalls stepA

theorem RPost.frr {H : Hp} {q : Nat} {a : AV} {c tm : Int} {S : Bf} {r : Item} {v1 : AV} {H1 : Hp} (h : RPost H q a c tm S r v1 H1) : ∃ a', v1 = .tup [.rsl (ints (putR S r).2) false, iv (putE S r)] ∧ Rq H1 q a' c tm (putR S r).1.L ∧ FrR q a H H1 := by
  obtain ⟨a', e, h1, h2, h3, _⟩ := h
  exact ⟨a', e, h1, h2, h3⟩

set_option maxRecDepth 8000 in
set_option maxHeartbeats 8000000 in
theorem round0 {J : Hp} {l : List Ax} {ex : Bool} {q i x : Nat} {p : Ax} {F : Ft} {w : Rw} {S : Bf} {a : AV} {err : Int} {T : Env} (hT : Hd14 l ex q i x p F err T) (hB : Both J F w S q a) (hx : J[x]? = some (.cells [p.cs] 65)) (hl : S.L.length ≤ i) (hi : i < 30) (h0 : 0 ≤ S.time)
    (hk8 : 0 ≤ p.kind ∧ p.kind ≤ 255) (hk : p.kind.tmod 4 = 0) : Awp Try.prog 172 none (hdC (tl (tl (inC (hdC (tl (inC (inC (tl (hdC (tl (tl (tl (tl (tl (tl (Try.f7.body.getD .skip))))))))))))))))) T J (Q30 l ex q i) := by
  obtain ⟨t1, t5, t6, t7, t8, t9, t10, t11, t12⟩ := hT
  have hkw := (kinds hk8.1 hk8.2).2
  rw [hk] at hkw
  simp only [Ax.cs, u8v] at hx
  have hput := Put_ok hB.rep hB.good (by omega) p.r
  simp only [Item.cs] at hput
  unfold Try.f7
  simp only [tl, hdC, inC, Option.getD_some]
  repeat' (first | refine spD (fun _ => ?_) (fun _ => ?_) | refine spF (fun _ => ?_) (fun _ => ?_) | (apply gT; (exact rfl)) | (apply off; (exact rfl); (exact rfl)) | (apply condT; (exact rfl)) | (apply condF; (exact rfl)) | ((first | (apply stp0; (exact rfl); (exact rfl)) | (apply stpN0; (exact rfl)) | apply gT | apply condT | ((first | apply bodyQ_d0 | apply bodyQ_d1 | apply bodyQ_d2 | apply bodyQ_d3 | apply bodyQ_d4); (exact .inr rfl); (rw [Try.results7]))); (first | (focus (simp only [go_sem, ↓reduceIte, simprocAttr, t1, t5, t6, t7, t8, t9, t10, t11, t12, hx, hk, hkw] <;> rfl)) | exact rfl); (first | (fail_if_success (show okD _ _ _ _ _ _ _ _ _)) | (first | exact okT | exact okN | exact okE rfl)); (first | (fail_if_success (show Bel _ _)) | (focus first | exact .val _ | (simp [oneOf, Bel_iff_tup, Bel_iff_agg, Bel_iff_rsl, Bel_iff_fn, Bel_iff_rptr, Bel_val]; done)))) | refine thenQ_n ?_ | refine thenQ_r ?_ | refine thenQ_e ?_ | refine blockQ_n ?_ | refine blockQ_r ?_ | refine blockQ_e ?_ | (apply blockQ_o; (exact rfl)) | refine Awp.seq ?_ | refine Awp.skip ?_ | refine Awp.block ?_ | refine reg (fun s => s == 10) ?_ | (apply drwE mixed (fun s => s == 10); (kernel_rfl)) | refine fin ?_ | refine Awp.ret ?_ | refine Awp.exit ?_ | ((first | (apply off; (exact rfl)) | apply condF); (first | (focus (simp only [go_sem, ↓reduceIte, simprocAttr, t1, t5, t6, t7, t8, t9, t10, t11, t12, hx, hk, hkw] <;> rfl)) | exact rfl)))
  all_goals first | contradiction | (exfalso; omega) | skip
  refine cal rfl rfl rfl ?_ (show ACallV Try.prog (.fn (.func 24) []) [.mptr F.b 0 0, .agg [iv p.r.id, iv p.r.cls, iv p.r.made, iv p.r.size, iv p.r.pk]] J _ from hput) ?_
  · (first | (focus (simp only [go_sem, ↓reduceIte, simprocAttr, t5]; first | done | rfl)) | rfl)
  rintro v1 K1 ⟨w2, rfl, hR1, hF1, _⟩
  have hx1 := hF1.keeps hB.rep hx (fun cs e => by cases e) (fun es e => by cases e) (fun cs e => by cases e)
  have hq1 := hB.rq.prog hB.rep hF1
  have hrp := rPut_ok hq1 hB.good rfl (by omega) p.r
  simp only [Item.cs] at hrp
  repeat' (first | refine spD (fun _ => ?_) (fun _ => ?_) | refine spF (fun _ => ?_) (fun _ => ?_) | (apply gT; (exact rfl)) | (apply off; (exact rfl); (exact rfl)) | (apply condT; (exact rfl)) | (apply condF; (exact rfl)) | ((first | (apply stp0; (exact rfl); (exact rfl)) | (apply stpN0; (exact rfl)) | apply gT | apply condT | ((first | apply bodyQ_d0 | apply bodyQ_d1 | apply bodyQ_d2 | apply bodyQ_d3 | apply bodyQ_d4); (exact .inr rfl); (rw [Try.results7]))); (first | (focus (simp only [go_sem, ↓reduceIte, simprocAttr, t1, t7, t9, t10, hx1] <;> rfl)) | exact rfl); (first | (fail_if_success (show okD _ _ _ _ _ _ _ _ _)) | (first | exact okT | exact okN | exact okE rfl)); (first | (fail_if_success (show Bel _ _)) | (focus first | exact .val _ | (simp [oneOf, Bel_iff_tup, Bel_iff_agg, Bel_iff_rsl, Bel_iff_fn, Bel_iff_rptr, Bel_val]; done)))) | refine thenQ_n ?_ | refine thenQ_r ?_ | refine thenQ_e ?_ | refine blockQ_n ?_ | refine blockQ_r ?_ | refine blockQ_e ?_ | (apply blockQ_o; (exact rfl)) | refine Awp.seq ?_ | refine Awp.skip ?_ | refine Awp.block ?_ | refine reg (fun s => s == 10) ?_ | (apply drwE mixed (fun s => s == 10); (kernel_rfl)) | refine fin ?_ | refine Awp.ret ?_ | refine Awp.exit ?_ | ((first | (apply off; (exact rfl)) | apply condF); (first | (focus (simp only [go_sem, ↓reduceIte, simprocAttr, t1, t7, t9, t10, hx1] <;> rfl)) | exact rfl)))
  all_goals first | contradiction | (exfalso; omega) | skip
  refine cal rfl rfl rfl ?_ (show ACallV Try.prog (.fn (.func 31) []) [.mptr q 0 0, .agg [iv p.r.id, iv p.r.cls, iv p.r.made, iv p.r.size, iv p.r.pk]] K1 _ from hrp) ?_
  · (first | (focus (simp only [go_sem, ↓reduceIte, simprocAttr, t7]; first | done | rfl)) | rfl)
  rintro v1 K2 hP
  obtain ⟨a', rfl, hq2, hF2⟩ := hP.frr
  have hR2 := hR1.ref hq1 hF2
  obtain ⟨g1, g2, g3⟩ := put_good (r := p.r) hB.good (by omega)
  have g4 := put_cap (r := p.r) hB.good (by omega)
  have hB2 : Both K2 F w2 (putR S p.r).1 q a' := ⟨hR2, g1, by rw [g4, g2]; exact hq2⟩
  repeat' (first | refine spD (fun _ => ?_) (fun _ => ?_) | refine spF (fun _ => ?_) (fun _ => ?_) | (apply gT; (exact rfl)) | (apply off; (exact rfl); (exact rfl)) | (apply condT; (exact rfl)) | (apply condF; (exact rfl)) | ((first | (apply stp0; (exact rfl); (exact rfl)) | (apply stpN0; (exact rfl)) | apply gT | apply condT | ((first | apply bodyQ_d0 | apply bodyQ_d1 | apply bodyQ_d2 | apply bodyQ_d3 | apply bodyQ_d4); (exact .inr rfl); (rw [Try.results7]))); (first | (focus (simp only [go_sem, ↓reduceIte, simprocAttr, t1, t5, t7, t9] <;> rfl)) | exact rfl); (first | (fail_if_success (show okD _ _ _ _ _ _ _ _ _)) | (first | exact okT | exact okN | exact okE rfl)); (first | (fail_if_success (show Bel _ _)) | (focus first | exact .val _ | (simp [oneOf, Bel_iff_tup, Bel_iff_agg, Bel_iff_rsl, Bel_iff_fn, Bel_iff_rptr, Bel_val]; done)))) | refine thenQ_n ?_ | refine thenQ_r ?_ | refine thenQ_e ?_ | refine blockQ_n ?_ | refine blockQ_r ?_ | refine blockQ_e ?_ | (apply blockQ_o; (exact rfl)) | refine Awp.seq ?_ | refine Awp.skip ?_ | refine Awp.block ?_ | refine reg (fun s => s == 10) ?_ | (apply drwE mixed (fun s => s == 10); (kernel_rfl)) | refine fin ?_ | refine Awp.ret ?_ | refine Awp.exit ?_ | ((first | (apply off; (exact rfl)) | apply condF); (first | (focus (simp only [go_sem, ↓reduceIte, simprocAttr, t1, t5, t7, t9] <;> rfl)) | exact rfl)))
  all_goals first | contradiction | (exfalso; omega) | skip
  refine ⟨rfl, ⟨?_, ?_, ?_⟩, F, w2, _, a', (putR S p.r).2, putE S p.r, _, _, K2, K2, ?_, ?_, ?_, ?_, ?_, .fix _, .fix _, hB2, by omega, by rw [g2]; exact h0, put_len hB.good (by omega)⟩
  · (first | (focus (simp only [go_sem, ↓reduceIte, simprocAttr, t1]; first | done | rfl)) | rfl)
  · (first | (focus (simp only [go_sem, ↓reduceIte, simprocAttr, t7]; first | done | rfl)) | rfl)
  · (first | (focus (simp only [go_sem, ↓reduceIte, simprocAttr, t9]; first | done | rfl)) | rfl)
  · (first | (focus (simp only [go_sem, ↓reduceIte, simprocAttr, t5]; first | done | rfl)) | rfl)
  · (first | (focus (simp only [go_sem, ↓reduceIte, simprocAttr]; first | done | rfl)) | rfl)
  · (first | (focus (simp only [go_sem, ↓reduceIte, simprocAttr]; first | done | rfl)) | rfl)
  · (first | (focus (simp only [go_sem, ↓reduceIte, simprocAttr]; first | done | rfl)) | rfl)
  · (first | (focus (simp only [go_sem, ↓reduceIte, simprocAttr]; first | done | rfl)) | rfl)

set_option maxRecDepth 8000 in
set_option maxHeartbeats 8000000 in
theorem round2 {J : Hp} {l : List Ax} {ex : Bool} {q i x : Nat} {p : Ax} {F : Ft} {w : Rw} {S : Bf} {a : AV} {err : Int} {T : Env} (hT : Hd14 l ex q i x p F err T) (hB : Both J F w S q a) (hx : J[x]? = some (.cells [p.cs] 65)) (hl : S.L.length ≤ i) (hi : i < 30) (h0 : 0 ≤ S.time) (hs : p.s.length ≤ 30)
    (hk8 : 0 ≤ p.kind ∧ p.kind ≤ 255) (hk : p.kind.tmod 4 = 2) : Awp Try.prog 172 none (hdC (tl (tl (inC (hdC (tl (inC (inC (tl (hdC (tl (tl (tl (tl (tl (tl (Try.f7.body.getD .skip))))))))))))))))) T J (Q30 l ex q i) := by
  obtain ⟨t1, t5, t6, t7, t8, t9, t10, t11, t12⟩ := hT
  have hkw := (kinds hk8.1 hk8.2).2
  rw [hk] at hkw
  simp only [Ax.cs, u8v] at hx
  have hsm : p.s.length ≤ maxLen := by simp only [maxLen]; omega
  unfold Try.f7
  simp only [tl, hdC, inC, Option.getD_some]
  repeat' (first | refine spD (fun _ => ?_) (fun _ => ?_) | refine spF (fun _ => ?_) (fun _ => ?_) | (apply gT; (exact rfl)) | (apply off; (exact rfl); (exact rfl)) | (apply condT; (exact rfl)) | (apply condF; (exact rfl)) | ((first | (apply stp0; (exact rfl); (exact rfl)) | (apply stpN0; (exact rfl)) | apply gT | apply condT | ((first | apply bodyQ_d0 | apply bodyQ_d1 | apply bodyQ_d2 | apply bodyQ_d3 | apply bodyQ_d4); (exact .inr rfl); (rw [Try.results7]))); (first | (focus (simp only [go_sem, ↓reduceIte, simprocAttr, t1, t5, t6, t7, t8, t9, t10, t11, t12, hx, hk, hkw] <;> rfl)) | exact rfl); (first | (fail_if_success (show okD _ _ _ _ _ _ _ _ _)) | (first | exact okT | exact okN | exact okE rfl)); (first | (fail_if_success (show Bel _ _)) | (focus first | exact .val _ | (simp [oneOf, Bel_iff_tup, Bel_iff_agg, Bel_iff_rsl, Bel_iff_fn, Bel_iff_rptr, Bel_val]; done)))) | refine thenQ_n ?_ | refine thenQ_r ?_ | refine thenQ_e ?_ | refine blockQ_n ?_ | refine blockQ_r ?_ | refine blockQ_e ?_ | (apply blockQ_o; (exact rfl)) | refine Awp.seq ?_ | refine Awp.skip ?_ | refine Awp.block ?_ | refine reg (fun s => s == 10) ?_ | (apply drwE mixed (fun s => s == 10); (kernel_rfl)) | refine fin ?_ | refine Awp.ret ?_ | refine Awp.exit ?_ | ((first | (apply off; (exact rfl)) | apply condF); (first | (focus (simp only [go_sem, ↓reduceIte, simprocAttr, t1, t5, t6, t7, t8, t9, t10, t11, t12, hx, hk, hkw] <;> rfl)) | exact rfl)))
  all_goals first | contradiction | (exfalso; omega) | skip
  by_cases hc : setC p.s = 0
  · have hA := Ack_ok hB.rep hB.good p.s p.ex hc hsm
    refine cal rfl rfl rfl ?_ (show ACallV Try.prog (.fn (.func 33) []) [.mptr F.b 0 0, .rsl (sps p.s) p.ex] J _ from hA) ?_
    · (first | (focus (simp only [go_sem, ↓reduceIte, simprocAttr, t5]; first | done | rfl)) | rfl)
    rintro v1 K1 ⟨rfl, w2, hP⟩
    have hx1 := hP.fr.keeps hB.rep hx (fun cs e => by cases e) (fun es e => by cases e) (fun cs e => by cases e)
    have hq1 := hB.rq.prog hB.rep hP.fr
    have hck := fun H => rcheckSet_ok H p.s p.ex
    rw [hc] at hck
    have hrA := rAck_ok hq1 (by omega) hck (isInB p.s) (fun x H => risIn_ok H p.s p.ex hsm x)
    repeat' (first | refine spD (fun _ => ?_) (fun _ => ?_) | refine spF (fun _ => ?_) (fun _ => ?_) | (apply gT; (exact rfl)) | (apply off; (exact rfl); (exact rfl)) | (apply condT; (exact rfl)) | (apply condF; (exact rfl)) | ((first | (apply stp0; (exact rfl); (exact rfl)) | (apply stpN0; (exact rfl)) | apply gT | apply condT | ((first | apply bodyQ_d0 | apply bodyQ_d1 | apply bodyQ_d2 | apply bodyQ_d3 | apply bodyQ_d4); (exact .inr rfl); (rw [Try.results7]))); (first | (focus (simp only [go_sem, ↓reduceIte, simprocAttr, t1, t5, t7, t9, t10, hx1] <;> rfl)) | exact rfl); (first | (fail_if_success (show okD _ _ _ _ _ _ _ _ _)) | (first | exact okT | exact okN | exact okE rfl)); (first | (fail_if_success (show Bel _ _)) | (focus first | exact .val _ | (simp [oneOf, Bel_iff_tup, Bel_iff_agg, Bel_iff_rsl, Bel_iff_fn, Bel_iff_rptr, Bel_val]; done)))) | refine thenQ_n ?_ | refine thenQ_r ?_ | refine thenQ_e ?_ | refine blockQ_n ?_ | refine blockQ_r ?_ | refine blockQ_e ?_ | (apply blockQ_o; (exact rfl)) | refine Awp.seq ?_ | refine Awp.skip ?_ | refine Awp.block ?_ | refine reg (fun s => s == 10) ?_ | (apply drwE mixed (fun s => s == 10); (kernel_rfl)) | refine fin ?_ | refine Awp.ret ?_ | refine Awp.exit ?_ | ((first | (apply off; (exact rfl)) | apply condF); (first | (focus (simp only [go_sem, ↓reduceIte, simprocAttr, t1, t5, t7, t9, t10, hx1] <;> rfl)) | exact rfl)))
    all_goals first | contradiction | (exfalso; omega) | skip
    refine cal rfl rfl rfl ?_ (show ACallV Try.prog (.fn (.func 34) []) [.mptr q 0 0, .rsl (sps p.s) p.ex] K1 _ from hrA) ?_
    · (first | (focus (simp only [go_sem, ↓reduceIte, simprocAttr, t7]; first | done | rfl)) | rfl)
    rintro v1 K2 ⟨z, rfl, hq2, hl2, ho2, _⟩
    have hF2 : FrR q a K1 K2 := ⟨hl2, fun j hj e _ => ho2 j hj e⟩
    have hR2 := hP.rep.ref hq1 hF2
    have hB2 : Both K2 F w2 (S.keep (isInB p.s)) q z := ⟨hR2, hB.good.keepG, hq2⟩
    have hkl : (S.keep (isInB p.s)).L.length ≤ S.L.length := List.length_filter_le _ _
    repeat' (first | refine spD (fun _ => ?_) (fun _ => ?_) | refine spF (fun _ => ?_) (fun _ => ?_) | (apply gT; (exact rfl)) | (apply off; (exact rfl); (exact rfl)) | (apply condT; (exact rfl)) | (apply condF; (exact rfl)) | ((first | (apply stp0; (exact rfl); (exact rfl)) | (apply stpN0; (exact rfl)) | apply gT | apply condT | ((first | apply bodyQ_d0 | apply bodyQ_d1 | apply bodyQ_d2 | apply bodyQ_d3 | apply bodyQ_d4); (exact .inr rfl); (rw [Try.results7]))); (first | (focus (simp only [go_sem, ↓reduceIte, simprocAttr, t1, t5, t6, t7, t8, t9, t11, t12] <;> rfl)) | exact rfl); (first | (fail_if_success (show okD _ _ _ _ _ _ _ _ _)) | (first | exact okT | exact okN | exact okE rfl)); (first | (fail_if_success (show Bel _ _)) | (focus first | exact .val _ | (simp [oneOf, Bel_iff_tup, Bel_iff_agg, Bel_iff_rsl, Bel_iff_fn, Bel_iff_rptr, Bel_val]; done)))) | refine thenQ_n ?_ | refine thenQ_r ?_ | refine thenQ_e ?_ | refine blockQ_n ?_ | refine blockQ_r ?_ | refine blockQ_e ?_ | (apply blockQ_o; (exact rfl)) | refine Awp.seq ?_ | refine Awp.skip ?_ | refine Awp.block ?_ | refine reg (fun s => s == 10) ?_ | (apply drwE mixed (fun s => s == 10); (kernel_rfl)) | refine fin ?_ | refine Awp.ret ?_ | refine Awp.exit ?_ | ((first | (apply off; (exact rfl)) | apply condF); (first | (focus (simp only [go_sem, ↓reduceIte, simprocAttr, t1, t5, t6, t7, t8, t9, t11, t12] <;> rfl)) | exact rfl)))
    all_goals first | contradiction | (exfalso; omega) | skip
    refine ⟨rfl, ⟨?_, ?_, ?_⟩, F, w2, _, z, [], err, nilS, nilS, K2, K2, ?_, ?_, ?_, ?_, ?_, .own (lo := 0) .nil, .own (lo := 0) .nil, hB2, by omega, h0, by simp⟩
    · (first | (focus (simp only [go_sem, ↓reduceIte, simprocAttr, t1]; first | done | rfl)) | rfl)
    · (first | (focus (simp only [go_sem, ↓reduceIte, simprocAttr, t7]; first | done | rfl)) | rfl)
    · (first | (focus (simp only [go_sem, ↓reduceIte, simprocAttr, t9]; first | done | rfl)) | rfl)
    · (first | (focus (simp only [go_sem, ↓reduceIte, simprocAttr, t5]; first | done | rfl)) | rfl)
    · (first | (focus (simp only [go_sem, ↓reduceIte, simprocAttr, t6]; first | done | rfl)) | rfl)
    · (first | (focus (simp only [go_sem, ↓reduceIte, simprocAttr, t8]; first | done | rfl)) | rfl)
    · (first | (focus (simp only [go_sem, ↓reduceIte, simprocAttr, t11]; first | done | rfl)) | rfl)
    · (first | (focus (simp only [go_sem, ↓reduceIte, simprocAttr, t12]; first | done | rfl)) | rfl)
  · have hA := Ack_err hB.rep p.s p.ex hc
    have hrA := rAckBad J q p.s p.ex hc
    refine cal rfl rfl rfl ?_ (show ACallV Try.prog (.fn (.func 33) []) [.mptr F.b 0 0, .rsl (sps p.s) p.ex] J _ from hA) ?_
    · (first | (focus (simp only [go_sem, ↓reduceIte, simprocAttr, t5]; first | done | rfl)) | rfl)
    rintro v1 K1 ⟨rfl, rfl⟩
    repeat' (first | refine spD (fun _ => ?_) (fun _ => ?_) | refine spF (fun _ => ?_) (fun _ => ?_) | (apply gT; (exact rfl)) | (apply off; (exact rfl); (exact rfl)) | (apply condT; (exact rfl)) | (apply condF; (exact rfl)) | ((first | (apply stp0; (exact rfl); (exact rfl)) | (apply stpN0; (exact rfl)) | apply gT | apply condT | ((first | apply bodyQ_d0 | apply bodyQ_d1 | apply bodyQ_d2 | apply bodyQ_d3 | apply bodyQ_d4); (exact .inr rfl); (rw [Try.results7]))); (first | (focus (simp only [go_sem, ↓reduceIte, simprocAttr, t1, t5, t7, t9, t10, hx] <;> rfl)) | exact rfl); (first | (fail_if_success (show okD _ _ _ _ _ _ _ _ _)) | (first | exact okT | exact okN | exact okE rfl)); (first | (fail_if_success (show Bel _ _)) | (focus first | exact .val _ | (simp [oneOf, Bel_iff_tup, Bel_iff_agg, Bel_iff_rsl, Bel_iff_fn, Bel_iff_rptr, Bel_val]; done)))) | refine thenQ_n ?_ | refine thenQ_r ?_ | refine thenQ_e ?_ | refine blockQ_n ?_ | refine blockQ_r ?_ | refine blockQ_e ?_ | (apply blockQ_o; (exact rfl)) | refine Awp.seq ?_ | refine Awp.skip ?_ | refine Awp.block ?_ | refine reg (fun s => s == 10) ?_ | (apply drwE mixed (fun s => s == 10); (kernel_rfl)) | refine fin ?_ | refine Awp.ret ?_ | refine Awp.exit ?_ | ((first | (apply off; (exact rfl)) | apply condF); (first | (focus (simp only [go_sem, ↓reduceIte, simprocAttr, t1, t5, t7, t9, t10, hx] <;> rfl)) | exact rfl)))
    all_goals first | contradiction | (exfalso; omega) | skip
    refine cal rfl rfl rfl ?_ (show ACallV Try.prog (.fn (.func 34) []) [.mptr q 0 0, .rsl (sps p.s) p.ex] K1 _ from hrA) ?_
    · (first | (focus (simp only [go_sem, ↓reduceIte, simprocAttr, t7]; first | done | rfl)) | rfl)
    rintro v1 K2 ⟨rfl, rfl⟩
    repeat' (first | refine spD (fun _ => ?_) (fun _ => ?_) | refine spF (fun _ => ?_) (fun _ => ?_) | (apply gT; (exact rfl)) | (apply off; (exact rfl); (exact rfl)) | (apply condT; (exact rfl)) | (apply condF; (exact rfl)) | ((first | (apply stp0; (exact rfl); (exact rfl)) | (apply stpN0; (exact rfl)) | apply gT | apply condT | ((first | apply bodyQ_d0 | apply bodyQ_d1 | apply bodyQ_d2 | apply bodyQ_d3 | apply bodyQ_d4); (exact .inr rfl); (rw [Try.results7]))); (first | (focus (simp only [go_sem, ↓reduceIte, simprocAttr, t1, t5, t6, t7, t8, t9, t11, t12] <;> rfl)) | exact rfl); (first | (fail_if_success (show okD _ _ _ _ _ _ _ _ _)) | (first | exact okT | exact okN | exact okE rfl)); (first | (fail_if_success (show Bel _ _)) | (focus first | exact .val _ | (simp [oneOf, Bel_iff_tup, Bel_iff_agg, Bel_iff_rsl, Bel_iff_fn, Bel_iff_rptr, Bel_val]; done)))) | refine thenQ_n ?_ | refine thenQ_r ?_ | refine thenQ_e ?_ | refine blockQ_n ?_ | refine blockQ_r ?_ | refine blockQ_e ?_ | (apply blockQ_o; (exact rfl)) | refine Awp.seq ?_ | refine Awp.skip ?_ | refine Awp.block ?_ | refine reg (fun s => s == 10) ?_ | (apply drwE mixed (fun s => s == 10); (kernel_rfl)) | refine fin ?_ | refine Awp.ret ?_ | refine Awp.exit ?_ | ((first | (apply off; (exact rfl)) | apply condF); (first | (focus (simp only [go_sem, ↓reduceIte, simprocAttr, t1, t5, t6, t7, t8, t9, t11, t12] <;> rfl)) | exact rfl)))
    all_goals first | contradiction | (exfalso; omega) | skip
    refine ⟨rfl, ⟨?_, ?_, ?_⟩, F, w, S, a, [], err, nilS, nilS, K2, K2, ?_, ?_, ?_, ?_, ?_, .own (lo := 0) .nil, .own (lo := 0) .nil, hB, by omega, h0, by simp⟩
    · (first | (focus (simp only [go_sem, ↓reduceIte, simprocAttr, t1]; first | done | rfl)) | rfl)
    · (first | (focus (simp only [go_sem, ↓reduceIte, simprocAttr, t7]; first | done | rfl)) | rfl)
    · (first | (focus (simp only [go_sem, ↓reduceIte, simprocAttr, t9]; first | done | rfl)) | rfl)
    · (first | (focus (simp only [go_sem, ↓reduceIte, simprocAttr, t5]; first | done | rfl)) | rfl)
    · (first | (focus (simp only [go_sem, ↓reduceIte, simprocAttr, t6]; first | done | rfl)) | rfl)
    · (first | (focus (simp only [go_sem, ↓reduceIte, simprocAttr, t8]; first | done | rfl)) | rfl)
    · (first | (focus (simp only [go_sem, ↓reduceIte, simprocAttr, t11]; first | done | rfl)) | rfl)
    · (first | (focus (simp only [go_sem, ↓reduceIte, simprocAttr, t12]; first | done | rfl)) | rfl)

end Go.Proofs.Ytlhchnnfgppneaa.Ab
