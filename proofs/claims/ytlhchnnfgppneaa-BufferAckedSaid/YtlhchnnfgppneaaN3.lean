/- Loops over functions, by heaps that have grown; slices.Backward. -/
import Derived.Test.YtlhchnnfgppneaaN2
namespace Go.Proofs.Ytlhchnnfgppneaa.Ab
open Go Go.RowKit Go.Proofs
set_option linter.unusedSimpArgs false
set_option linter.unusedVariables false
attribute [local irreducible] Awp wpO thenQ blockQ bodyQ ACalls stepA

/-- a round of a loop over a function -/
theorem yieldOf {P : Program} {b : Nat} {f : FuncId} {T : Env} {n : Nat} {ps : Array Tmp} {assign body : Code} {D : Nat} {args : List AV} {H1 : Hp}
    (hbk : H1[b]? = some (.loop .ready none f T n ps assign body D)) (hl : args.length = ps.size) (hps : ∀ p ∈ ps.toList, p < n) (Nx Rq : Hp → Prop)
    (h : Awp P n (some b) assign (setPs T (ps.toList.zip args)) H1 (fun e T1 H1' => e = .normal ∧ H1' = H1 ∧ Awp P n (some b) body T1 (H1.set b (.loop .busy none f T n ps assign body D)) (fun e T2 H2 => H2[b]? = some (.loop .busy none f T n ps assign body D) ∧
      match e with | .normal => Nx (H2.set b (.loop .ready none f T n ps assign body D)) | .ret => Rq (H2.set b .dead) | _ => False))) :
    AYield P b args H1 (fun v1 H2 => (v1 = .val (.bool true) ∧ Nx H2 ∧ H2[b]? = some (.loop .ready none f T n ps assign body D)) ∨ (v1 = .val (.bool false) ∧ H2[b]? = some (.loop .done (some .ret) f T n ps assign body D) ∧ Rq (H2.set b .dead))) := by
  refine AYield.of_body hbk hl hps ?_
  refine Awp.mono h fun e T1 H1' ⟨he, hH, hbody⟩ => ?_
  subst hH
  refine ⟨he, none, f, T, n, ps, assign, body, D, hbk, ?_⟩
  refine Awp.mono hbody fun e T2 H2 ⟨hb2, hpost⟩ => ?_
  have hlt := (List.getElem?_eq_some_iff.1 hb2).1
  refine ⟨.busy, none, f, T, n, ps, assign, body, D, hb2, ?_⟩
  cases e with
  | normal => exact ⟨_, Vs.refl _ _ _, .inl ⟨rfl, hpost, List.getElem?_set_self hlt⟩⟩
  | ret =>
    refine ⟨_, Vs.refl _ _ _, .inr ⟨rfl, List.getElem?_set_self hlt, ?_⟩⟩
    rw [List.set_set]; exact hpost
  | _ => exact hpost.elim

/-- a list of numbers, as a slice that may turn -/
inductive OrdAt (H : Hp) : AV → List Int → Prop
  | nil : OrdAt H nilS []
  | emp : OrdAt H (.rsl [] true) []
  | row {o n : Nat} {v : List Int} (hb : H[o]? = some (.cells (ints v) 2)) (hn : n ≤ v.length) (h0 : 0 < v.length) : OrdAt H (.msl o 0 n) (v.take n)
theorem OrdAt.get {H H' : Hp} {a : AV} {ids : List Int} (h : OrdAt H a ids) (hk : ∀ o n v, a = .msl o 0 n → H[o]? = some (.cells (ints v) 2) → H'[o]? = some (.cells (ints v) 2)) : OrdAt H' a ids := by
  cases h with
  | nil => exact .nil
  | emp => exact .emp
  | row hb hn h0 => exact .row (hk _ _ _ rfl hb) hn h0
theorem OrdAt.grow {H H' : Hp} {a : AV} {ids : List Int} (h : OrdAt H a ids) (hG : Grow H H') : OrdAt H' a ids := h.get fun _ _ _ _ h => hG.get h
theorem OrdAt.set {H : Hp} {a : AV} {ids : List Int} (h : OrdAt H a ids) {s : Nat} {ob : AObj} (hs : H[s]? = some ob) (hne : ∀ v, ob ≠ .cells (ints v) 2) (c : AObj) : OrdAt (H.set s c) a ids := h.get fun o n v _ hb => by
  rw [List.getElem?_set_ne]
  · exact hb
  · rintro rfl; rw [hs] at hb; exact hne v (by simpa using hb)
theorem OrdAt.blk {H : Hp} {a : AV} {ids : List Int} (h : OrdAt H a ids) {o m : Nat} (e : a = .msl o 0 m) : ∃ v, H[o]? = some (.cells (ints v) 2) ∧ m ≤ v.length ∧ 0 < v.length ∧ ids = v.take m := by
  cases h with
  | nil => cases e
  | emp => cases e
  | row hb hn h0 => cases e; exact ⟨_, hb, hn, h0, rfl⟩
theorem b109_ne {cs : List AV} (v : List Int) : AObj.cells [cs] 109 ≠ .cells (ints v) 2 := fun e => by injection e with _ e; cases e
theorem amap_ne {es : List (AV × AV)} (v : List Int) : AObj.amap es ≠ .cells (ints v) 2 := fun e => by cases e
theorem OrdAt.len {H : Hp} {a : AV} {ids : List Int} (h : OrdAt H a ids) (K : Hp) : lenA Try.prog 46 a K = some (iv ids.length) := by
  cases h with
  | nil => unfold lenA; simp only [Try.underlying46]; rfl
  | emp => unfold lenA; simp only [Try.underlying46]; rfl
  | row hb hn h0 =>
    unfold lenA; simp only [Try.underlying46]
    rw [List.length_take, Nat.min_eq_left hn]

set_option maxRecDepth 8000 in
theorem backward_ok (H : Hp) (a : AV) (ids : List Int) (h : OrdAt H a ids) : CallsTo Try.prog 96 [a] H (.fn (.func 115) [.rptr [a] 0]) H := by
  cases h with
  | nil =>
    refine ACalls.of_body Try.func96 rfl (by kernel_rfl) (by rw [Try.ntmps96]; simp) ?_; rw [Try.ntmps96]
    repeat' (first | refine spD (fun _ => ?_) (fun _ => ?_) | refine spF (fun _ => ?_) (fun _ => ?_) | (apply gT; (exact rfl)) | (apply off; (exact rfl); (exact rfl)) | (apply condT; (exact rfl)) | (apply condF; (exact rfl)) | ((first | (apply stp0; (exact rfl); (exact rfl)) | (apply stpN0; (exact rfl)) | apply gT | apply condT | ((first | apply bodyQ_d0 | apply bodyQ_d1 | apply bodyQ_d2 | apply bodyQ_d3 | apply bodyQ_d4); (exact .inr rfl); (rw [Try.results96]))); (first | (focus (simp only [go_sem, ↓reduceIte, simprocAttr] <;> rfl)) | exact rfl); (first | (fail_if_success (show okD _ _ _ _ _ _ _ _ _)) | (first | exact okT | exact okN | exact okE rfl)); (first | (fail_if_success (show Bel _ _)) | (focus first | exact .val _ | (simp [oneOf, Bel_iff_tup, Bel_iff_agg, Bel_iff_rsl, Bel_iff_fn, Bel_iff_rptr, Bel_val]; done)))) | refine thenQ_n ?_ | refine thenQ_r ?_ | refine thenQ_e ?_ | refine blockQ_n ?_ | refine blockQ_r ?_ | refine blockQ_e ?_ | (apply blockQ_o; (exact rfl)) | refine Awp.seq ?_ | refine Awp.skip ?_ | refine Awp.block ?_ | refine reg (fun s => false) ?_ | (apply drwE mixed (fun s => false); (kernel_rfl)) | refine fin ?_ | refine Awp.ret ?_ | refine Awp.exit ?_ | ((first | (apply off; (exact rfl)) | apply condF); (first | (focus (simp only [go_sem, ↓reduceIte, simprocAttr] <;> rfl)) | exact rfl)))
    all_goals first | rfl | contradiction | (exfalso; omega) | skip
  | emp =>
    refine ACalls.of_body Try.func96 rfl (by kernel_rfl) (by rw [Try.ntmps96]; simp) ?_; rw [Try.ntmps96]
    repeat' (first | refine spD (fun _ => ?_) (fun _ => ?_) | refine spF (fun _ => ?_) (fun _ => ?_) | (apply gT; (exact rfl)) | (apply off; (exact rfl); (exact rfl)) | (apply condT; (exact rfl)) | (apply condF; (exact rfl)) | ((first | (apply stp0; (exact rfl); (exact rfl)) | (apply stpN0; (exact rfl)) | apply gT | apply condT | ((first | apply bodyQ_d0 | apply bodyQ_d1 | apply bodyQ_d2 | apply bodyQ_d3 | apply bodyQ_d4); (exact .inr rfl); (rw [Try.results96]))); (first | (focus (simp only [go_sem, ↓reduceIte, simprocAttr] <;> rfl)) | exact rfl); (first | (fail_if_success (show okD _ _ _ _ _ _ _ _ _)) | (first | exact okT | exact okN | exact okE rfl)); (first | (fail_if_success (show Bel _ _)) | (focus first | exact .val _ | (simp [oneOf, Bel_iff_tup, Bel_iff_agg, Bel_iff_rsl, Bel_iff_fn, Bel_iff_rptr, Bel_val]; done)))) | refine thenQ_n ?_ | refine thenQ_r ?_ | refine thenQ_e ?_ | refine blockQ_n ?_ | refine blockQ_r ?_ | refine blockQ_e ?_ | (apply blockQ_o; (exact rfl)) | refine Awp.seq ?_ | refine Awp.skip ?_ | refine Awp.block ?_ | refine reg (fun s => false) ?_ | (apply drwE mixed (fun s => false); (kernel_rfl)) | refine fin ?_ | refine Awp.ret ?_ | refine Awp.exit ?_ | ((first | (apply off; (exact rfl)) | apply condF); (first | (focus (simp only [go_sem, ↓reduceIte, simprocAttr] <;> rfl)) | exact rfl)))
    all_goals first | rfl | contradiction | (exfalso; omega) | skip
  | row hb hn h0 =>
    refine ACalls.of_body Try.func96 rfl (by kernel_rfl) (by rw [Try.ntmps96]; simp) ?_; rw [Try.ntmps96]
    repeat' (first | refine spD (fun _ => ?_) (fun _ => ?_) | refine spF (fun _ => ?_) (fun _ => ?_) | (apply gT; (exact rfl)) | (apply off; (exact rfl); (exact rfl)) | (apply condT; (exact rfl)) | (apply condF; (exact rfl)) | ((first | (apply stp0; (exact rfl); (exact rfl)) | (apply stpN0; (exact rfl)) | apply gT | apply condT); (first | (focus (simp only [go_sem, ↓reduceIte, simprocAttr] <;> rfl)) | exact rfl); (first | (fail_if_success (show okD _ _ _ _ _ _ _ _ _)) | (first | exact okT | exact okN | exact okE rfl))) | refine thenQ_n ?_ | refine thenQ_r ?_ | refine thenQ_e ?_ | refine blockQ_n ?_ | refine blockQ_r ?_ | refine blockQ_e ?_ | (apply blockQ_o; (exact rfl)) | refine Awp.seq ?_ | refine Awp.skip ?_ | refine Awp.block ?_ | refine reg (fun s => false) ?_ | (apply drwE mixed (fun s => false); (kernel_rfl)) | refine fin ?_ | refine Awp.ret ?_ | refine Awp.exit ?_ | ((first | (apply off; (exact rfl)) | apply condF); (first | (focus (simp only [go_sem, ↓reduceIte, simprocAttr] <;> rfl)) | exact rfl)))
    all_goals first | rfl | contradiction | (exfalso; omega) | skip
    exact bodyQ_mk (.inr rfl) (by rw [Try.results96]; simp only [go_sem, ↓reduceIte, simprocAttr]; rfl) (Vs.refl _ _ _) ⟨rfl, rfl⟩

set_option maxRecDepth 8000 in
set_option maxHeartbeats 4000000 in
theorem backLoop {o n : Nat} {v : List Int} (b : Nat) (I : Nat → Hp → Prop) (Stop : Hp → Prop) (hO : ∀ j H, I j H → H[o]? = some (.cells (ints v) 2)) (hn : n ≤ v.length) (hm : n ≤ maxLen)
    (hy : ∀ (j : Nat) (p : Int) (H : Hp), v[j]? = some p → j < n → I (j + 1) H → AYield Try.prog b [iv j, iv p] H (fun v1 H1 => (v1 = bv true ∧ I j H1) ∨ (v1 = bv false ∧ Stop H1))) (H : Hp) (h0 : I n H) :
    ACalls Try.prog 115 [.fn (.yield b) [], .rptr [.msl o 0 n] 0] H fun _ H' => I 0 H' ∨ Stop H' := by
  have hvl := ints_len v
  have wn : IntKind.i64.wrap ((n : Int) - 1) = (n : Int) - 1 := w64 (by omega) (by simp only [maxLen] at hm; omega)
  refine ACalls.of_body Try.func115 rfl (by kernel_rfl) (by rw [Try.ntmps115]; simp) ?_; rw [Try.ntmps115]
  repeat' (first | refine spD (fun _ => ?_) (fun _ => ?_) | refine spF (fun _ => ?_) (fun _ => ?_) | (apply gT; (exact rfl)) | (apply off; (exact rfl); (exact rfl)) | (apply condT; (exact rfl)) | (apply condF; (exact rfl)) | ((first | (apply stp0; (exact rfl); (exact rfl)) | (apply stpN0; (exact rfl)) | apply gT | apply condT | ((first | apply bodyQ_d0 | apply bodyQ_d1 | apply bodyQ_d2 | apply bodyQ_d3 | apply bodyQ_d4); (exact .inr rfl); (rw [Try.results115]))); (first | (focus (simp only [go_sem, ↓reduceIte, simprocAttr, wn] <;> rfl)) | exact rfl); (first | (fail_if_success (show okD _ _ _ _ _ _ _ _ _)) | (first | exact okT | exact okN | exact okE rfl)); (first | (fail_if_success (show Bel _ _)) | (focus first | exact .val _ | (simp [oneOf, Bel_iff_tup, Bel_iff_agg, Bel_iff_rsl, Bel_iff_fn, Bel_iff_rptr, Bel_val]; done)))) | refine thenQ_n ?_ | refine thenQ_r ?_ | refine thenQ_e ?_ | refine blockQ_n ?_ | refine blockQ_r ?_ | refine blockQ_e ?_ | (apply blockQ_o; (exact rfl)) | refine Awp.seq ?_ | refine Awp.skip ?_ | refine Awp.block ?_ | refine reg (fun s => false) ?_ | (apply drwE mixed (fun s => false); (kernel_rfl)) | refine fin ?_ | refine Awp.ret ?_ | refine Awp.exit ?_ | ((first | (apply off; (exact rfl)) | apply condF); (first | (focus (simp only [go_sem, ↓reduceIte, simprocAttr, wn] <;> rfl)) | exact rfl)))
  all_goals first | contradiction | (exfalso; omega) | skip
  refine Awp.loop (ι := Nat) (fun m T' H' => m ≤ n ∧ T' 0 = .fn (.yield b) [] ∧ T' 1 = .rptr [.msl o 0 n] 0 ∧ T' 3 = iv ((m : Int) - 1) ∧ I m H') (fun m => m) n ?_ ?_
  · refine ⟨Nat.le_refl _, ?_, ?_, ?_, h0⟩
    · rfl
    · rfl
    · (first | (focus (simp only [go_sem, ↓reduceIte, simprocAttr]; first | done | rfl)) | rfl)
  rintro m T H' ⟨hmn, t0, t1, t3, hI⟩
  cases m with
  | zero =>
    have hc : ¬ (((0 : Nat) : Int) - 1) ≥ 0 := by omega
    repeat' (first | refine spD (fun _ => ?_) (fun _ => ?_) | refine spF (fun _ => ?_) (fun _ => ?_) | (apply gT; (exact rfl)) | (apply off; (exact rfl); (exact rfl)) | (apply condT; (exact rfl)) | (apply condF; (exact rfl)) | ((first | (apply stp0; (exact rfl); (exact rfl)) | (apply stpN0; (exact rfl)) | apply gT | apply condT | ((first | apply bodyQ_d0 | apply bodyQ_d1 | apply bodyQ_d2 | apply bodyQ_d3 | apply bodyQ_d4); (exact .inr rfl); (rw [Try.results115]))); (first | (focus (simp only [go_sem, ↓reduceIte, simprocAttr, t0, t1, t3, hc] <;> rfl)) | exact rfl); (first | (fail_if_success (show okD _ _ _ _ _ _ _ _ _)) | (first | exact okT | exact okN | exact okE rfl)); (first | (fail_if_success (show Bel _ _)) | (focus first | exact .val _ | (simp [oneOf, Bel_iff_tup, Bel_iff_agg, Bel_iff_rsl, Bel_iff_fn, Bel_iff_rptr, Bel_val]; done)))) | refine thenQ_n ?_ | refine thenQ_r ?_ | refine thenQ_e ?_ | refine blockQ_n ?_ | refine blockQ_r ?_ | refine blockQ_e ?_ | (apply blockQ_o; (exact rfl)) | refine Awp.seq ?_ | refine Awp.skip ?_ | refine Awp.block ?_ | refine reg (fun s => false) ?_ | (apply drwE mixed (fun s => false); (kernel_rfl)) | refine fin ?_ | refine Awp.ret ?_ | refine Awp.exit ?_ | ((first | (apply off; (exact rfl)) | apply condF); (first | (focus (simp only [go_sem, ↓reduceIte, simprocAttr, t0, t1, t3, hc] <;> rfl)) | exact rfl)))
    all_goals first | contradiction | (exfalso; omega) | skip
    exact bodyQ_eq (.inl rfl) (by rw [Try.results115]; simp only [go_sem, ↓reduceIte, simprocAttr]; rfl) (.inl hI)
  | succ j =>
    have e : (((j + 1 : Nat) : Int) - 1) = (j : Int) := by omega
    rw [e] at t3
    have hc : (j : Int) ≥ 0 := by omega
    obtain ⟨p, hp⟩ := nth (l := v) (i := j) (by omega)
    have hpc : (ints v)[j]? = some [iv p] := nthMap (fun x => [iv x]) hp
    have hjn : j < n := by omega
    have hb := hO _ _ hI
    have hcall := hy j p H' hp hjn hI
    repeat' (first | refine spD (fun _ => ?_) (fun _ => ?_) | refine spF (fun _ => ?_) (fun _ => ?_) | (apply gT; (exact rfl)) | (apply off; (exact rfl); (exact rfl)) | (apply condT; (exact rfl)) | (apply condF; (exact rfl)) | ((first | (apply stp0; (exact rfl); (exact rfl)) | (apply stpN0; (exact rfl)) | apply gT | apply condT | ((first | apply bodyQ_d0 | apply bodyQ_d1 | apply bodyQ_d2 | apply bodyQ_d3 | apply bodyQ_d4); (exact .inr rfl); (rw [Try.results115]))); (first | (focus (simp only [go_sem, ↓reduceIte, simprocAttr, t0, t1, t3, hc, hb, hvl, hpc, hjn, Nat.zero_add] <;> rfl)) | exact rfl); (first | (fail_if_success (show okD _ _ _ _ _ _ _ _ _)) | (first | exact okT | exact okN | exact okE rfl)); (first | (fail_if_success (show Bel _ _)) | (focus first | exact .val _ | (simp [oneOf, Bel_iff_tup, Bel_iff_agg, Bel_iff_rsl, Bel_iff_fn, Bel_iff_rptr, Bel_val]; done)))) | refine thenQ_n ?_ | refine thenQ_r ?_ | refine thenQ_e ?_ | refine blockQ_n ?_ | refine blockQ_r ?_ | refine blockQ_e ?_ | (apply blockQ_o; (exact rfl)) | refine Awp.seq ?_ | refine Awp.skip ?_ | refine Awp.block ?_ | refine reg (fun s => false) ?_ | (apply drwE mixed (fun s => false); (kernel_rfl)) | refine fin ?_ | refine Awp.ret ?_ | refine Awp.exit ?_ | ((first | (apply off; (exact rfl)) | apply condF); (first | (focus (simp only [go_sem, ↓reduceIte, simprocAttr, t0, t1, t3, hc, hb, hvl, hpc, hjn, Nat.zero_add] <;> rfl)) | exact rfl)))
    all_goals first | contradiction | (exfalso; omega) | skip
    refine cal rfl rfl ?_ ?_ (show ACallV Try.prog (.fn (.yield b) []) [iv j, iv p] H' _ from hcall) ?_
    · (first | (focus (simp only [go_sem, ↓reduceIte, simprocAttr, t0]; first | done | rfl)) | rfl)
    · (first | (focus (simp only [go_sem, ↓reduceIte, simprocAttr, t3]; first | done | rfl)) | rfl)
    rintro v1 H2 (⟨rfl, hI2⟩ | ⟨rfl, hstop⟩)
    · have w1 : IntKind.i64.wrap ((j : Int) - 1) = (j : Int) - 1 := w64 (by omega) (by simp only [maxLen] at hm; omega)
      repeat' (first | refine spD (fun _ => ?_) (fun _ => ?_) | refine spF (fun _ => ?_) (fun _ => ?_) | (apply gT; (exact rfl)) | (apply off; (exact rfl); (exact rfl)) | (apply condT; (exact rfl)) | (apply condF; (exact rfl)) | ((first | (apply stp0; (exact rfl); (exact rfl)) | (apply stpN0; (exact rfl)) | apply gT | apply condT | ((first | apply bodyQ_d0 | apply bodyQ_d1 | apply bodyQ_d2 | apply bodyQ_d3 | apply bodyQ_d4); (exact .inr rfl); (rw [Try.results115]))); (first | (focus (simp only [go_sem, ↓reduceIte, simprocAttr, t0, t1, t3, w1] <;> rfl)) | exact rfl); (first | (fail_if_success (show okD _ _ _ _ _ _ _ _ _)) | (first | exact okT | exact okN | exact okE rfl)); (first | (fail_if_success (show Bel _ _)) | (focus first | exact .val _ | (simp [oneOf, Bel_iff_tup, Bel_iff_agg, Bel_iff_rsl, Bel_iff_fn, Bel_iff_rptr, Bel_val]; done)))) | refine thenQ_n ?_ | refine thenQ_r ?_ | refine thenQ_e ?_ | refine blockQ_n ?_ | refine blockQ_r ?_ | refine blockQ_e ?_ | (apply blockQ_o; (exact rfl)) | refine Awp.seq ?_ | refine Awp.skip ?_ | refine Awp.block ?_ | refine reg (fun s => false) ?_ | (apply drwE mixed (fun s => false); (kernel_rfl)) | refine fin ?_ | refine Awp.ret ?_ | refine Awp.exit ?_ | ((first | (apply off; (exact rfl)) | apply condF); (first | (focus (simp only [go_sem, ↓reduceIte, simprocAttr, t0, t1, t3, w1] <;> rfl)) | exact rfl)))
      all_goals first | contradiction | (exfalso; omega) | skip
      refine ⟨j, ⟨by omega, ?_, ?_, ?_, hI2⟩, by omega⟩
      · (first | (focus (simp only [go_sem, ↓reduceIte, simprocAttr, t0]; first | done | rfl)) | rfl)
      · (first | (focus (simp only [go_sem, ↓reduceIte, simprocAttr, t1]; first | done | rfl)) | rfl)
      · (first | (focus (simp only [go_sem, ↓reduceIte, simprocAttr, w1]; first | done | rfl)) | rfl)
    · repeat' (first | refine spD (fun _ => ?_) (fun _ => ?_) | refine spF (fun _ => ?_) (fun _ => ?_) | (apply gT; (exact rfl)) | (apply off; (exact rfl); (exact rfl)) | (apply condT; (exact rfl)) | (apply condF; (exact rfl)) | ((first | (apply stp0; (exact rfl); (exact rfl)) | (apply stpN0; (exact rfl)) | apply gT | apply condT | ((first | apply bodyQ_d0 | apply bodyQ_d1 | apply bodyQ_d2 | apply bodyQ_d3 | apply bodyQ_d4); (exact .inr rfl); (rw [Try.results115]))); (first | (focus (simp only [go_sem, ↓reduceIte, simprocAttr, t0, t1, t3] <;> rfl)) | exact rfl); (first | (fail_if_success (show okD _ _ _ _ _ _ _ _ _)) | (first | exact okT | exact okN | exact okE rfl)); (first | (fail_if_success (show Bel _ _)) | (focus first | exact .val _ | (simp [oneOf, Bel_iff_tup, Bel_iff_agg, Bel_iff_rsl, Bel_iff_fn, Bel_iff_rptr, Bel_val]; done)))) | refine thenQ_n ?_ | refine thenQ_r ?_ | refine thenQ_e ?_ | refine blockQ_n ?_ | refine blockQ_r ?_ | refine blockQ_e ?_ | (apply blockQ_o; (exact rfl)) | refine Awp.seq ?_ | refine Awp.skip ?_ | refine Awp.block ?_ | refine reg (fun s => false) ?_ | (apply drwE mixed (fun s => false); (kernel_rfl)) | refine fin ?_ | refine Awp.ret ?_ | refine Awp.exit ?_ | ((first | (apply off; (exact rfl)) | apply condF); (first | (focus (simp only [go_sem, ↓reduceIte, simprocAttr, t0, t1, t3] <;> rfl)) | exact rfl)))
      all_goals first | contradiction | (exfalso; omega) | skip
      exact bodyQ_eq (.inr rfl) (by rw [Try.results115]; simp only [go_sem, ↓reduceIte, simprocAttr]; rfl) (.inr hstop)

set_option maxRecDepth 8000 in
theorem backNil (b : Nat) (H : Hp) : ACalls Try.prog 115 [.fn (.yield b) [], .rptr [nilS] 0] H fun _ H' => H' = H := by
  have wn : IntKind.i64.wrap ((0 : Int) - 1) = -1 := by kernel_rfl
  refine ACalls.of_body Try.func115 rfl (by kernel_rfl) (by rw [Try.ntmps115]; simp) ?_; rw [Try.ntmps115]
  repeat' (first | refine spD (fun _ => ?_) (fun _ => ?_) | refine spF (fun _ => ?_) (fun _ => ?_) | (apply gT; (exact rfl)) | (apply off; (exact rfl); (exact rfl)) | (apply condT; (exact rfl)) | (apply condF; (exact rfl)) | ((first | (apply stp0; (exact rfl); (exact rfl)) | (apply stpN0; (exact rfl)) | apply gT | apply condT | ((first | apply bodyQ_d0 | apply bodyQ_d1 | apply bodyQ_d2 | apply bodyQ_d3 | apply bodyQ_d4); (exact .inr rfl); (rw [Try.results115]))); (first | (focus (simp only [go_sem, ↓reduceIte, simprocAttr, wn] <;> rfl)) | exact rfl); (first | (fail_if_success (show okD _ _ _ _ _ _ _ _ _)) | (first | exact okT | exact okN | exact okE rfl)); (first | (fail_if_success (show Bel _ _)) | (focus first | exact .val _ | (simp [oneOf, Bel_iff_tup, Bel_iff_agg, Bel_iff_rsl, Bel_iff_fn, Bel_iff_rptr, Bel_val]; done)))) | refine thenQ_n ?_ | refine thenQ_r ?_ | refine thenQ_e ?_ | refine blockQ_n ?_ | refine blockQ_r ?_ | refine blockQ_e ?_ | (apply blockQ_o; (exact rfl)) | refine Awp.seq ?_ | refine Awp.skip ?_ | refine Awp.block ?_ | refine reg (fun s => false) ?_ | (apply drwE mixed (fun s => false); (kernel_rfl)) | refine fin ?_ | refine Awp.ret ?_ | refine Awp.exit ?_ | ((first | (apply off; (exact rfl)) | apply condF); (first | (focus (simp only [go_sem, ↓reduceIte, simprocAttr, wn] <;> rfl)) | exact rfl)))
  all_goals first | contradiction | (exfalso; omega) | skip
  refine Awp.loop (ι := Nat) (fun m T' H' => T' 3 = iv (-1) ∧ H' = H) (fun m => m) 0 ?_ ?_
  · refine ⟨?_, rfl⟩
    (first | (focus (simp only [go_sem, ↓reduceIte, simprocAttr]; first | done | rfl)) | rfl)
  rintro m T H' ⟨t3, hH⟩
  have hc : ¬ (-1 : Int) ≥ 0 := by omega
  repeat' (first | refine spD (fun _ => ?_) (fun _ => ?_) | refine spF (fun _ => ?_) (fun _ => ?_) | (apply gT; (exact rfl)) | (apply off; (exact rfl); (exact rfl)) | (apply condT; (exact rfl)) | (apply condF; (exact rfl)) | ((first | (apply stp0; (exact rfl); (exact rfl)) | (apply stpN0; (exact rfl)) | apply gT | apply condT | ((first | apply bodyQ_d0 | apply bodyQ_d1 | apply bodyQ_d2 | apply bodyQ_d3 | apply bodyQ_d4); (exact .inr rfl); (rw [Try.results115]))); (first | (focus (simp only [go_sem, ↓reduceIte, simprocAttr, t3, hc] <;> rfl)) | exact rfl); (first | (fail_if_success (show okD _ _ _ _ _ _ _ _ _)) | (first | exact okT | exact okN | exact okE rfl)); (first | (fail_if_success (show Bel _ _)) | (focus first | exact .val _ | (simp [oneOf, Bel_iff_tup, Bel_iff_agg, Bel_iff_rsl, Bel_iff_fn, Bel_iff_rptr, Bel_val]; done)))) | refine thenQ_n ?_ | refine thenQ_r ?_ | refine thenQ_e ?_ | refine blockQ_n ?_ | refine blockQ_r ?_ | refine blockQ_e ?_ | (apply blockQ_o; (exact rfl)) | refine Awp.seq ?_ | refine Awp.skip ?_ | refine Awp.block ?_ | refine reg (fun s => false) ?_ | (apply drwE mixed (fun s => false); (kernel_rfl)) | refine fin ?_ | refine Awp.ret ?_ | refine Awp.exit ?_ | ((first | (apply off; (exact rfl)) | apply condF); (first | (focus (simp only [go_sem, ↓reduceIte, simprocAttr, t3, hc] <;> rfl)) | exact rfl)))
  all_goals first | contradiction | (exfalso; omega) | skip
  exact bodyQ_eq (.inl rfl) (by rw [Try.results115]; simp only [go_sem, ↓reduceIte, simprocAttr]; rfl) hH

set_option maxRecDepth 8000 in
theorem backEmp (b : Nat) (H : Hp) : ACalls Try.prog 115 [.fn (.yield b) [], .rptr [.rsl [] true] 0] H fun _ H' => H' = H := by
  have wn : IntKind.i64.wrap ((0 : Int) - 1) = -1 := by kernel_rfl
  refine ACalls.of_body Try.func115 rfl (by kernel_rfl) (by rw [Try.ntmps115]; simp) ?_; rw [Try.ntmps115]
  repeat' (first | refine spD (fun _ => ?_) (fun _ => ?_) | refine spF (fun _ => ?_) (fun _ => ?_) | (apply gT; (exact rfl)) | (apply off; (exact rfl); (exact rfl)) | (apply condT; (exact rfl)) | (apply condF; (exact rfl)) | ((first | (apply stp0; (exact rfl); (exact rfl)) | (apply stpN0; (exact rfl)) | apply gT | apply condT | ((first | apply bodyQ_d0 | apply bodyQ_d1 | apply bodyQ_d2 | apply bodyQ_d3 | apply bodyQ_d4); (exact .inr rfl); (rw [Try.results115]))); (first | (focus (simp only [go_sem, ↓reduceIte, simprocAttr, wn] <;> rfl)) | exact rfl); (first | (fail_if_success (show okD _ _ _ _ _ _ _ _ _)) | (first | exact okT | exact okN | exact okE rfl)); (first | (fail_if_success (show Bel _ _)) | (focus first | exact .val _ | (simp [oneOf, Bel_iff_tup, Bel_iff_agg, Bel_iff_rsl, Bel_iff_fn, Bel_iff_rptr, Bel_val]; done)))) | refine thenQ_n ?_ | refine thenQ_r ?_ | refine thenQ_e ?_ | refine blockQ_n ?_ | refine blockQ_r ?_ | refine blockQ_e ?_ | (apply blockQ_o; (exact rfl)) | refine Awp.seq ?_ | refine Awp.skip ?_ | refine Awp.block ?_ | refine reg (fun s => false) ?_ | (apply drwE mixed (fun s => false); (kernel_rfl)) | refine fin ?_ | refine Awp.ret ?_ | refine Awp.exit ?_ | ((first | (apply off; (exact rfl)) | apply condF); (first | (focus (simp only [go_sem, ↓reduceIte, simprocAttr, wn] <;> rfl)) | exact rfl)))
  all_goals first | contradiction | (exfalso; omega) | skip
  refine Awp.loop (ι := Nat) (fun m T' H' => T' 3 = iv (-1) ∧ H' = H) (fun m => m) 0 ?_ ?_
  · refine ⟨?_, rfl⟩
    (first | (focus (simp only [go_sem, ↓reduceIte, simprocAttr]; first | done | rfl)) | rfl)
  rintro m T H' ⟨t3, hH⟩
  have hc : ¬ (-1 : Int) ≥ 0 := by omega
  repeat' (first | refine spD (fun _ => ?_) (fun _ => ?_) | refine spF (fun _ => ?_) (fun _ => ?_) | (apply gT; (exact rfl)) | (apply off; (exact rfl); (exact rfl)) | (apply condT; (exact rfl)) | (apply condF; (exact rfl)) | ((first | (apply stp0; (exact rfl); (exact rfl)) | (apply stpN0; (exact rfl)) | apply gT | apply condT | ((first | apply bodyQ_d0 | apply bodyQ_d1 | apply bodyQ_d2 | apply bodyQ_d3 | apply bodyQ_d4); (exact .inr rfl); (rw [Try.results115]))); (first | (focus (simp only [go_sem, ↓reduceIte, simprocAttr, t3, hc] <;> rfl)) | exact rfl); (first | (fail_if_success (show okD _ _ _ _ _ _ _ _ _)) | (first | exact okT | exact okN | exact okE rfl)); (first | (fail_if_success (show Bel _ _)) | (focus first | exact .val _ | (simp [oneOf, Bel_iff_tup, Bel_iff_agg, Bel_iff_rsl, Bel_iff_fn, Bel_iff_rptr, Bel_val]; done)))) | refine thenQ_n ?_ | refine thenQ_r ?_ | refine thenQ_e ?_ | refine blockQ_n ?_ | refine blockQ_r ?_ | refine blockQ_e ?_ | (apply blockQ_o; (exact rfl)) | refine Awp.seq ?_ | refine Awp.skip ?_ | refine Awp.block ?_ | refine reg (fun s => false) ?_ | (apply drwE mixed (fun s => false); (kernel_rfl)) | refine fin ?_ | refine Awp.ret ?_ | refine Awp.exit ?_ | ((first | (apply off; (exact rfl)) | apply condF); (first | (focus (simp only [go_sem, ↓reduceIte, simprocAttr, t3, hc] <;> rfl)) | exact rfl)))
  all_goals first | contradiction | (exfalso; omega) | skip
  exact bodyQ_eq (.inl rfl) (by rw [Try.results115]; simp only [go_sem, ↓reduceIte, simprocAttr]; rfl) hH

/-- for i, x := range slices.Backward(row) -/
theorem overBack {n : Nat} {T : Env} {Q : Exit → Env → Hp → Prop} {gop : Operand} {x y : Nat} {assign body : Code} {A : Hp} {a : AV} {ids : List Int} (hOA : OrdAt A a ids) (hm : ids.length ≤ maxLen)
    (hT : evA T gop = .fn (.func 115) [.rptr [a] 0]) (hx : x < n) (hy : y < n) (I : Nat → Hp → Prop) (Rq : Hp → Prop) (hO : ∀ o m v j H, a = .msl o 0 m → I j H → H[o]? = some (.cells (ints v) 2) ∨ A[o]? ≠ some (.cells (ints v) 2))
    (h0 : ∀ ob, I ids.length (A ++ [ob]))
    (hb : ∀ (lp : LoopState → AObj) (j : Nat) (p : Int) (H1 : Hp), ids[j]? = some p → I (j + 1) H1 → H1[A.length]? = some (lp .ready) →
      Awp Try.prog n (some A.length) assign (upd (upd T x (iv j)) y (iv p)) H1 (fun e T1 H1' => e = .normal ∧ H1' = H1 ∧ Awp Try.prog n (some A.length) body T1 (H1.set A.length (lp .busy)) (fun e T2 H2 => H2[A.length]? = some (lp .busy) ∧
        match e with | .normal => I j (H2.set A.length (lp .ready)) | .ret => Rq (H2.set A.length .dead) | _ => False)))
    (hn : ∀ H1 ob, I 0 H1 → H1[A.length]? = some ob → Q .normal T (H1.set A.length .dead))
    (hr : ∀ H1, Rq H1 → Q .ret T H1) :
    Awp Try.prog n none (.rangeFunc gop #[x, y] assign body) T A Q := by
  refine Awp.range (k := 115) (cap := [.rptr [a] 0]) hT fun fid D => ?_
  have fin : ∀ H', ((I 0 H' ∧ H'[A.length]? = some (.loop .ready none fid T n #[x, y] assign body D)) ∨ (H'[A.length]? = some (.loop .done (some .ret) fid T n #[x, y] assign body D) ∧ Rq (H'.set A.length .dead))) → rangeQ Try.prog n none T A.length Q (.val undef) H' := by
    rintro H' (⟨h1, h2⟩ | ⟨h1, h2⟩)
    · exact ⟨.ready, none, fid, T, n, _, _, _, D, h2, by simp, hn H' _ h1 h2⟩
    · exact ⟨.done, some .ret, fid, T, n, _, _, _, D, h1, by simp, Awp.ret (hr _ h2)⟩
  cases hOA with
  | nil =>
    refine ACalls.mono (backNil _ _) fun v1 H' hH => ?_
    subst hH
    exact fin _ (.inl ⟨h0 _, get_new _ _⟩)
  | emp =>
    refine ACalls.mono (backEmp _ _) fun v1 H' hH => ?_
    subst hH
    exact fin _ (.inl ⟨h0 _, get_new _ _⟩)
  | row hbk hnv hv0 =>
    rename_i o m v
    have hlen : (v.take m).length = m := by rw [List.length_take]; omega
    rw [hlen] at h0 hm
    refine ACalls.mono (backLoop (o := o) (n := m) (v := v) A.length (fun j H' => I j H' ∧ H'[A.length]? = some (.loop .ready none fid T n #[x, y] assign body D))
      (fun H' => H'[A.length]? = some (.loop .done (some .ret) fid T n #[x, y] assign body D) ∧ Rq (H'.set A.length .dead)) (fun j H' hI => ?_) hnv hm ?_ _ ⟨h0 _, get_new _ _⟩) fun v1 H' h => fin H' h
    · rcases hO o m v j H' rfl hI.1 with h | h
      · exact h
      · exact absurd hbk h
    · rintro j p H1 hp hj ⟨hI, hlp⟩
      have hp' : (v.take m)[j]? = some p := by rw [List.getElem?_take, if_pos hj]; exact hp
      exact yieldOf hlp rfl (by simp; exact ⟨hx, hy⟩) (I j) Rq (hb (fun st => .loop st none fid T n #[x, y] assign body D) j p H1 hp' hI hlp)

end Go.Proofs.Ytlhchnnfgppneaa.Ab
