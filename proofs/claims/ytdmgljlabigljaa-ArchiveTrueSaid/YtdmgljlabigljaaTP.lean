/- Archive: a loop over the entries that count. -/
import Derived.Test.YtdmgljlabigljaaTO
namespace Go.Proofs.Ytdmgljlabigljaa.Ab
open Go Go.RowKit Go.Proofs
set_option linter.unusedSimpArgs false
set_option linter.unusedVariables false
attribute [local irreducible] Awp wpO thenQ blockQ bodyQ ACalls stepA

theorem inOrder_ok (H : Hp) (p : Nat) : CallsTo Try.prog 22 [.mptr p 0 0] H (.fn (.func 34) [.rptr [.mptr p 0 0] 0]) H := by
  refine ACalls.of_body Try.func22 rfl (by kernel_rfl) (by rw [Try.ntmps22]; simp) ?_; rw [Try.ntmps22]
  repeat' (first | refine spD (fun _ => ?_) (fun _ => ?_) | refine spF (fun _ => ?_) (fun _ => ?_) | (apply gT; (exact rfl)) | (apply off; (exact rfl); (exact rfl)) | (apply condT; (exact rfl)) | (apply condF; (exact rfl)) | ((first | (apply stp0; (exact rfl); (exact rfl)) | (apply stpN0; (exact rfl)) | apply gT | apply condT | ((first | apply bodyQ_d0 | apply bodyQ_d1 | apply bodyQ_d2 | apply bodyQ_d3 | apply bodyQ_d4); (exact .inr rfl); (rw [Try.results22]))); (first | (focus (simp only [go_sem, ↓reduceIte, simprocAttr] <;> rfl)) | exact rfl); (first | (fail_if_success (show okD _ _ _ _ _ _ _ _ _)) | (first | exact okT | exact okN | exact okE rfl)); (first | (fail_if_success (show Bel _ _)) | (focus first | exact .val _ | (simp [oneOf, Bel_iff_tup, Bel_iff_agg, Bel_iff_rsl, Bel_iff_fn, Bel_iff_rptr, Bel_val]; done)))) | refine thenQ_n ?_ | refine thenQ_r ?_ | refine thenQ_e ?_ | refine blockQ_n ?_ | refine blockQ_r ?_ | refine blockQ_e ?_ | (apply blockQ_o; (exact rfl)) | refine Awp.seq ?_ | refine Awp.skip ?_ | refine Awp.block ?_ | refine reg (fun s => false) ?_ | (apply drwE mixed (fun s => false); (kernel_rfl)) | refine fin ?_ | refine Awp.ret ?_ | refine Awp.exit ?_ | ((first | (apply off; (exact rfl)) | apply condF); (first | (focus (simp only [go_sem, ↓reduceIte, simprocAttr] <;> rfl)) | exact rfl)))
  all_goals first | rfl | contradiction | skip
theorem counting_ok (H : Hp) (p : Nat) (asOf : Int) : CallsTo Try.prog 20 [.mptr p 0 0, iv asOf] H (.fn (.func 32) [.rptr [.mptr p 0 0] 0, .rptr [iv asOf] 0]) H := by
  refine ACalls.of_body Try.func20 rfl (by kernel_rfl) (by rw [Try.ntmps20]; simp) ?_; rw [Try.ntmps20]
  repeat' (first | refine spD (fun _ => ?_) (fun _ => ?_) | refine spF (fun _ => ?_) (fun _ => ?_) | (apply gT; (exact rfl)) | (apply off; (exact rfl); (exact rfl)) | (apply condT; (exact rfl)) | (apply condF; (exact rfl)) | ((first | (apply stp0; (exact rfl); (exact rfl)) | (apply stpN0; (exact rfl)) | apply gT | apply condT | ((first | apply bodyQ_d0 | apply bodyQ_d1 | apply bodyQ_d2 | apply bodyQ_d3 | apply bodyQ_d4); (exact .inr rfl); (rw [Try.results20]))); (first | (focus (simp only [go_sem, ↓reduceIte, simprocAttr] <;> rfl)) | exact rfl); (first | (fail_if_success (show okD _ _ _ _ _ _ _ _ _)) | (first | exact okT | exact okN | exact okE rfl)); (first | (fail_if_success (show Bel _ _)) | (focus first | exact .val _ | (simp [oneOf, Bel_iff_tup, Bel_iff_agg, Bel_iff_rsl, Bel_iff_fn, Bel_iff_rptr, Bel_val]; done)))) | refine thenQ_n ?_ | refine thenQ_r ?_ | refine thenQ_e ?_ | refine blockQ_n ?_ | refine blockQ_r ?_ | refine blockQ_e ?_ | (apply blockQ_o; (exact rfl)) | refine Awp.seq ?_ | refine Awp.skip ?_ | refine Awp.block ?_ | refine reg (fun s => false) ?_ | (apply drwE mixed (fun s => false); (kernel_rfl)) | refine fin ?_ | refine Awp.ret ?_ | refine Awp.exit ?_ | ((first | (apply off; (exact rfl)) | apply condF); (first | (focus (simp only [go_sem, ↓reduceIte, simprocAttr] <;> rfl)) | exact rfl)))
  all_goals first | rfl | contradiction | skip

def bdD : Code → Code
  | .rangeFunc _ _ _ b => b
  | c => c
structure KN (N : Nat) (H K : Hp) : Prop where
  k0 : K[N]? = H[N]?
  k1 : K[N + 1]? = H[N + 1]?
  k2 : K[N + 2]? = H[N + 2]?
/-- a yield leaves what the iterator has laid down -/
structure KQ (N : Nat) (K0 K H1 : Hp) : Prop where
  kn : KN N K H1
  new : ∀ x, K0.length ≤ x → x < K.length → H1[x]? = K[x]?
/-- in the midst of counting -/
structure IC (asOf : Int) (L : List Ent) (N : Nat) (I : Nat → Hp → Prop) (j : Nat) (H : Hp) : Prop where
  i : I (cntS asOf (L.take j)).1.length H
  last : H[N]? = some (.cells [(oldE (cntS asOf (L.take j)).2).cs] 31)
  hav : H[N + 1]? = some (.cells [[bv (cntS asOf (L.take j)).2.isSome]] 4)

set_option maxRecDepth 8000 in
set_option maxHeartbeats 8000000 in
theorem countLoop {asOf : Int} {L : List Ent} {p b bk : Nat} {S : List Ser} (I : Nat → Hp → Prop) (Stop : Hp → Prop) (H : Hp) (hArc : ∀ j H, I j H → Arc H p b S L)
    (hst : ∀ j K K', I j K → Kp H.length K K' → I j K') (hss : ∀ K K', Stop K → Kp H.length K K' → Stop K')
    (hy : ∀ (j : Nat) (e : Ent) (K0 K : Hp), (cntL asOf L)[j]? = some e → I j K0 → Kp H.length K0 K → H.length + 2 < K.length → AYield Try.prog bk [e.av] K (fun v1 H1 => (v1 = bv true ∧ I (j + 1) H1 ∧ KQ H.length K0 K H1) ∨ (v1 = bv false ∧ Stop H1 ∧ KQ H.length K0 K H1)))
    (h0 : I 0 H) (hlen : L.length ≤ 1024) :
    ACalls Try.prog 32 [.fn (.yield bk) [], .rptr [.mptr p 0 0] 0, .rptr [iv asOf] 0] H fun _ H' => I (cntL asOf L).length H' ∨ Stop H' := by
  refine ACalls.of_body Try.func32 rfl (by kernel_rfl) (by rw [Try.ntmps32]; simp) ?_; rw [Try.ntmps32]
  repeat' (first | refine spD (fun _ => ?_) (fun _ => ?_) | refine spF (fun _ => ?_) (fun _ => ?_) | (apply gT; (exact rfl)) | (apply off; (exact rfl); (exact rfl)) | (apply condT; (exact rfl)) | (apply condF; (exact rfl)) | ((first | (apply stp0; (exact rfl); (exact rfl)) | (apply stpN0; (exact rfl)) | apply gT | apply condT | ((first | apply bodyQ_d0 | apply bodyQ_d1 | apply bodyQ_d2 | apply bodyQ_d3 | apply bodyQ_d4); (exact .inr rfl); (rw [Try.results32]))); (first | (focus (simp only [go_sem, ↓reduceIte, simprocAttr] <;> rfl)) | exact rfl); (first | (fail_if_success (show okD _ _ _ _ _ _ _ _ _)) | (first | exact okT | exact okN | exact okE rfl)); (first | (fail_if_success (show Bel _ _)) | (focus first | exact .val _ | (simp [oneOf, Bel_iff_tup, Bel_iff_agg, Bel_iff_rsl, Bel_iff_fn, Bel_iff_rptr, Bel_val]; done)))) | (apply calTo0; (exact rfl); (iterate 2 (simp only [go_sem, ↓reduceIte, simprocAttr]; rfl)); (first | exact inOrder_ok _ p); (first | exact okT | exact okN | exact okE rfl)) | refine thenQ_n ?_ | refine thenQ_r ?_ | refine thenQ_e ?_ | refine blockQ_n ?_ | refine blockQ_r ?_ | refine blockQ_e ?_ | (apply blockQ_o; (exact rfl)) | refine Awp.seq ?_ | refine Awp.skip ?_ | refine Awp.block ?_ | refine reg (fun s => s == 4 || s == 5 || s == 6) ?_ | (apply drwE mixed (fun s => s == 4 || s == 5 || s == 6); (kernel_rfl)) | refine fin ?_ | refine Awp.ret ?_ | refine Awp.exit ?_ | ((first | (apply off; (exact rfl)) | apply condF); (first | (focus (simp only [go_sem, ↓reduceIte, simprocAttr] <;> rfl)) | exact rfl)))
  all_goals first | contradiction | skip
  obtain ⟨A, hA⟩ : ∃ A : Hp, H ++ [AObj.cells [[iv 0, iv 0, iv 0, iv 0, iv 0, iv 0, iv 0, iv 0, .val (.string ⟨#[]⟩)]] 31] ++ [AObj.cells [[bv false]] 4] = A := ⟨_, rfl⟩
  rw [hA]
  have hAl : A.length = H.length + 2 := by rw [← hA]; simp
  have hA0 : A[H.length]? = some (.cells [zeroE.cs] 31) := by rw [← hA]; simp [zeroE, Ent.cs]
  have hA1 : A[H.length + 1]? = some (.cells [[bv false]] 4) := by rw [← hA]; simp
  have hAG : Grow H A := by rw [← hA]; exact ((Grow.refl H).app _).app _
  refine Awp.withT (fun T' => T' 2 = .rptr [iv asOf] 0 ∧ T' 3 = .rptr [.fn (.yield bk) []] 0 ∧ T' 4 = .mptr H.length 0 0 ∧ T' 5 = .mptr (H.length + 1) 0 0 ∧ T' 8 = .fn (.func 34) [.rptr [.mptr p 0 0] 0]) ⟨by (first | (focus (simp only [go_sem, ↓reduceIte, simprocAttr]; first | done | rfl)) | rfl), by (first | (focus (simp only [go_sem, ↓reduceIte, simprocAttr]; first | done | rfl)) | rfl), by (first | (focus (simp only [go_sem, ↓reduceIte, simprocAttr]; first | done | rfl)) | rfl), by (first | (focus (simp only [go_sem, ↓reduceIte, simprocAttr, List.length_append, List.length_singleton]; first | done | rfl)) | rfl), by (first | (focus (simp only [go_sem, ↓reduceIte, simprocAttr]; first | done | rfl)) | rfl)⟩ ?_
  rintro T ⟨t2, t3, t4, t5, t8⟩
  refine overOrder (p := p) (b := b) (S := S) (L := L) hlen (by (first | (focus (simp only [go_sem, ↓reduceIte, simprocAttr, t8]; first | done | rfl)) | rfl)) (by decide) (IC asOf L H.length I) Stop (fun j K h => hArc _ K h.i) (fun j K K' h hG => ⟨hst _ _ _ h.i (Kp.of hG), hG.get h.last, hG.get h.hav⟩) (fun ob => ?_) ?_ ?_ ?_
  · refine ⟨?_, ?_, ?_⟩
    · rw [List.take_zero]; exact hst 0 H _ h0 (Kp.of (hAG.app _))
    · rw [List.take_zero]; exact (held hA0).2.1 _
    · rw [List.take_zero]; exact (held hA1).2.1 _
  · intro lp j e H1 he hI hlp
    rw [hAl] at hlp ⊢
    obtain ⟨hi, hla, hha⟩ := hI
    have hNl := (List.getElem?_eq_some_iff.1 hlp).1
    have hstep := cntS_succ (asOf := asOf) he
    simp only [Ent.av, Ent.cs]
    repeat' (first | refine spD (fun _ => ?_) (fun _ => ?_) | refine spF (fun _ => ?_) (fun _ => ?_) | (apply gT; (exact rfl)) | (apply off; (exact rfl); (exact rfl)) | (apply condT; (exact rfl)) | (apply condF; (exact rfl)) | ((first | (apply stp0; (exact rfl); (exact rfl)) | (apply stpN0; (exact rfl)) | apply gT | apply condT | ((first | apply bodyQ_d0 | apply bodyQ_d1 | apply bodyQ_d2 | apply bodyQ_d3 | apply bodyQ_d4); (exact .inr rfl); (rw [Try.results32]))); (first | (focus (simp only [go_sem, ↓reduceIte, simprocAttr] <;> rfl)) | exact rfl); (first | (fail_if_success (show okD _ _ _ _ _ _ _ _ _)) | (first | exact okT | exact okN | exact okE rfl)); (first | (fail_if_success (show Bel _ _)) | (focus first | exact .val _ | (simp [oneOf, Bel_iff_tup, Bel_iff_agg, Bel_iff_rsl, Bel_iff_fn, Bel_iff_rptr, Bel_val]; done)))) | refine thenQ_n ?_ | refine thenQ_r ?_ | refine thenQ_e ?_ | refine blockQ_n ?_ | refine blockQ_r ?_ | refine blockQ_e ?_ | (apply blockQ_o; (exact rfl)) | refine Awp.seq ?_ | refine Awp.skip ?_ | refine Awp.block ?_ | refine reg (fun s => s == 4 || s == 5 || s == 6) ?_ | (apply drwE mixed (fun s => s == 4 || s == 5 || s == 6); (kernel_rfl)) | refine fin ?_ | refine Awp.ret ?_ | refine Awp.exit ?_ | ((first | (apply off; (exact rfl)) | apply condF); (first | (focus (simp only [go_sem, ↓reduceIte, simprocAttr] <;> rfl)) | exact rfl)))
    all_goals first | contradiction | skip
    refine ⟨rfl, (held hlp).2.1 _, ?_⟩
    refine Awp.withT (fun T' => T' 2 = .rptr [iv asOf] 0 ∧ T' 3 = .rptr [.fn (.yield bk) []] 0 ∧ T' 4 = .mptr H.length 0 0 ∧ T' 5 = .mptr (H.length + 1) 0 0 ∧ T' 6 = .mptr H1.length 0 0) ⟨by (first | (focus (simp only [go_sem, ↓reduceIte, simprocAttr, t2]; first | done | rfl)) | rfl), by (first | (focus (simp only [go_sem, ↓reduceIte, simprocAttr, t3]; first | done | rfl)) | rfl), by (first | (focus (simp only [go_sem, ↓reduceIte, simprocAttr, t4]; first | done | rfl)) | rfl), by (first | (focus (simp only [go_sem, ↓reduceIte, simprocAttr, t5]; first | done | rfl)) | rfl), by (first | (focus (simp only [go_sem, ↓reduceIte, simprocAttr]; first | done | rfl)) | rfl)⟩ ?_
    clear t2 t3 t4 t5 t8 T
    rintro T ⟨t2, t3, t4, t5, t6⟩
    have hx : ((H1 ++ [AObj.cells [[iv e.series, iv e.time, iv e.version, iv e.arrived, iv e.owner, iv e.free, iv e.lo, iv e.hi, .val (.string e.cause)]] 31]).set (H.length + 2) (lp .busy))[H1.length]? = some (.cells [[iv e.series, iv e.time, iv e.version, iv e.arrived, iv e.owner, iv e.free, iv e.lo, iv e.hi, .val (.string e.cause)]] 31) := by
      rw [List.getElem?_set_ne (by omega)]; exact get_new _ _
    have hla1 : ((H1 ++ [AObj.cells [[iv e.series, iv e.time, iv e.version, iv e.arrived, iv e.owner, iv e.free, iv e.lo, iv e.hi, .val (.string e.cause)]] 31]).set (H.length + 2) (lp .busy))[H.length]? = some (.cells [(oldE (cntS asOf (L.take j)).2).cs] 31) := by
      rw [List.getElem?_set_ne (by omega)]; exact (held hla).2.1 _
    have hha1 : ((H1 ++ [AObj.cells [[iv e.series, iv e.time, iv e.version, iv e.arrived, iv e.owner, iv e.free, iv e.lo, iv e.hi, .val (.string e.cause)]] 31]).set (H.length + 2) (lp .busy))[H.length + 1]? = some (.cells [[bv (cntS asOf (L.take j)).2.isSome]] 4) := by
      rw [List.getElem?_set_ne (by omega)]; exact (held hha).2.1 _
    have hlp1 : ((H1 ++ [AObj.cells [[iv e.series, iv e.time, iv e.version, iv e.arrived, iv e.owner, iv e.free, iv e.lo, iv e.hi, .val (.string e.cause)]] 31]).set (H.length + 2) (lp .busy))[H.length + 2]? = some (lp .busy) := List.getElem?_set_self (by rw [List.length_append]; omega)
    have hKp : Kp H.length H1 ((H1 ++ [AObj.cells [[iv e.series, iv e.time, iv e.version, iv e.arrived, iv e.owner, iv e.free, iv e.lo, iv e.hi, .val (.string e.cause)]] 31]).set (H.length + 2) (lp .busy)) := ((Kp.of (Grow.refl H1)).app _).set (.inr (.inr rfl)) _
    have hi1 := hst _ _ _ hi hKp
    have hxl : H1.length < ((H1 ++ [AObj.cells [[iv e.series, iv e.time, iv e.version, iv e.arrived, iv e.owner, iv e.free, iv e.lo, iv e.hi, .val (.string e.cause)]] 31]).set (H.length + 2) (lp .busy)).length := by simp
    generalize (H1 ++ [AObj.cells [[iv e.series, iv e.time, iv e.version, iv e.arrived, iv e.owner, iv e.free, iv e.lo, iv e.hi, .val (.string e.cause)]] 31]).set (H.length + 2) (lp .busy) = K at *
    have hxne : H1.length ≠ H.length ∧ H1.length ≠ H.length + 1 ∧ H1.length ≠ H.length + 2 := by omega
    -- the entry becomes the last one
    have endW : ∀ K2 : Hp, I (cntS asOf (L.take (j + 1))).1.length K2 → (cntS asOf (L.take (j + 1))).2 = some e → K2[H.length + 2]? = some (lp .busy) →
        ((K2.set H.length (.cells [e.cs] 31)).set (H.length + 1) (.cells [[bv true]] 4))[H.length + 2]? = some (lp .busy) ∧ IC asOf L H.length I (j + 1) (((K2.set H.length (.cells [e.cs] 31)).set (H.length + 1) (.cells [[bv true]] 4)).set (H.length + 2) (lp .ready)) := by
      intro K2 h1 h2 h3
      have hl := (List.getElem?_eq_some_iff.1 h3).1
      refine ⟨by rw [List.getElem?_set_ne (by omega), List.getElem?_set_ne (by omega)]; exact h3, hst _ _ _ h1 ((((Kp.of (Grow.refl K2)).set (.inl rfl) _).set (.inr (.inl rfl)) _).set (.inr (.inr rfl)) _), ?_, ?_⟩
      · rw [List.getElem?_set_ne (by omega), List.getElem?_set_ne (by omega), List.getElem?_set_self (by omega), h2]; rfl
      · rw [List.getElem?_set_ne (by omega), List.getElem?_set_self (by rw [List.length_set]; omega), h2]; rfl
    simp only [Ent.cs] at endW
    by_cases ha : e.arrived > asOf
    · rw [stepC, if_pos ha] at hstep
      repeat' (first | refine spD (fun _ => ?_) (fun _ => ?_) | refine spF (fun _ => ?_) (fun _ => ?_) | (apply gT; (exact rfl)) | (apply off; (exact rfl); (exact rfl)) | (apply condT; (exact rfl)) | (apply condF; (exact rfl)) | ((first | (apply stp0; (exact rfl); (exact rfl)) | (apply stpN0; (exact rfl)) | apply gT | apply condT | ((first | apply bodyQ_d0 | apply bodyQ_d1 | apply bodyQ_d2 | apply bodyQ_d3 | apply bodyQ_d4); (exact .inr rfl); (rw [Try.results32]))); (first | (focus (simp only [go_sem, ↓reduceIte, simprocAttr, t2, t6, hx, ha] <;> rfl)) | exact rfl); (first | (fail_if_success (show okD _ _ _ _ _ _ _ _ _)) | (first | exact okT | exact okN | exact okE rfl)); (first | (fail_if_success (show Bel _ _)) | (focus first | exact .val _ | (simp [oneOf, Bel_iff_tup, Bel_iff_agg, Bel_iff_rsl, Bel_iff_fn, Bel_iff_rptr, Bel_val]; done)))) | refine thenQ_n ?_ | refine thenQ_r ?_ | refine thenQ_e ?_ | refine blockQ_n ?_ | refine blockQ_r ?_ | refine blockQ_e ?_ | (apply blockQ_o; (exact rfl)) | refine Awp.seq ?_ | refine Awp.skip ?_ | refine Awp.block ?_ | refine reg (fun s => s == 4 || s == 5 || s == 6) ?_ | (apply drwE mixed (fun s => s == 4 || s == 5 || s == 6); (kernel_rfl)) | refine fin ?_ | refine Awp.ret ?_ | refine Awp.exit ?_ | ((first | (apply off; (exact rfl)) | apply condF); (first | (focus (simp only [go_sem, ↓reduceIte, simprocAttr, t2, t6, hx, ha] <;> rfl)) | exact rfl)))
      all_goals first | contradiction | skip
      refine ⟨hlp1, ?_⟩
      refine ⟨by rw [hstep]; exact hst _ _ _ hi1 ((Kp.of (Grow.refl K)).set (.inr (.inr rfl)) _), ?_, ?_⟩
      · rw [hstep, List.getElem?_set_ne (by omega)]; exact hla1
      · rw [hstep, List.getElem?_set_ne (by omega)]; exact hha1
    · rw [stepC, if_neg ha] at hstep
      cases hc : (cntS asOf (L.take j)).2 with
      | none =>
        rw [hc] at hstep hla1 hha1
        simp only at hstep
        simp only [Option.isSome_none] at hha1
        obtain ⟨w1, w2⟩ := endW K (by rw [hstep]; exact hi1) (by rw [hstep]) hlp1
        have hla2 : K[H.length]? = some (.cells [zeroE.cs] 31) := hla1
        simp only [zeroE, Ent.cs] at hla2
        have hha2 : ∀ c, (K.set H.length c)[H.length + 1]? = some (.cells [[bv false]] 4) := fun c => by rw [List.getElem?_set_ne (by omega)]; exact hha1
        repeat' (first | refine spD (fun _ => ?_) (fun _ => ?_) | refine spF (fun _ => ?_) (fun _ => ?_) | (apply gT; (exact rfl)) | (apply off; (exact rfl); (exact rfl)) | (apply condT; (exact rfl)) | (apply condF; (exact rfl)) | ((first | (apply stp0; (exact rfl); (exact rfl)) | (apply stpN0; (exact rfl)) | apply gT | apply condT | ((first | apply bodyQ_d0 | apply bodyQ_d1 | apply bodyQ_d2 | apply bodyQ_d3 | apply bodyQ_d4); (exact .inr rfl); (rw [Try.results32]))); (first | (focus (simp only [go_sem, ↓reduceIte, simprocAttr, t2, t4, t5, t6, hx, hha1, hha2, hla2, ha] <;> rfl)) | exact rfl); (first | (fail_if_success (show okD _ _ _ _ _ _ _ _ _)) | (first | exact okT | exact okN | exact okE rfl)); (first | (fail_if_success (show Bel _ _)) | (focus first | exact .val _ | (simp [oneOf, Bel_iff_tup, Bel_iff_agg, Bel_iff_rsl, Bel_iff_fn, Bel_iff_rptr, Bel_val]; done)))) | refine thenQ_n ?_ | refine thenQ_r ?_ | refine thenQ_e ?_ | refine blockQ_n ?_ | refine blockQ_r ?_ | refine blockQ_e ?_ | (apply blockQ_o; (exact rfl)) | refine Awp.seq ?_ | refine Awp.skip ?_ | refine Awp.block ?_ | refine reg (fun s => s == 4 || s == 5 || s == 6) ?_ | (apply drwE mixed (fun s => s == 4 || s == 5 || s == 6); (kernel_rfl)) | refine fin ?_ | refine Awp.ret ?_ | refine Awp.exit ?_ | ((first | (apply off; (exact rfl)) | apply condF); (first | (focus (simp only [go_sem, ↓reduceIte, simprocAttr, t2, t4, t5, t6, hx, hha1, hha2, hla2, ha] <;> rfl)) | exact rfl)))
        all_goals first | contradiction | skip
        exact ⟨w1, w2⟩
      | some l =>
        rw [hc] at hstep hla1 hha1
        simp only at hstep
        simp only [Option.isSome_some] at hha1
        have hla2 : K[H.length]? = some (.cells [l.cs] 31) := hla1
        simp only [Ent.cs] at hla2
        have hha2 : ∀ c, (K.set H.length c)[H.length + 1]? = some (.cells [[bv true]] 4) := fun c => by rw [List.getElem?_set_ne (by omega)]; exact hha1
        have hcall : sameE l e = false → _ := fun hs => hy _ l H1 K (cnt_next he ha hc hs) hi hKp (List.getElem?_eq_some_iff.1 hlp1).1
        by_cases hs1 : l.series = e.series
        · by_cases hs2 : l.time = e.time
          · have hss' : sameE l e = true := by unfold sameE; rw [decide_eq_true_eq]; exact ⟨hs1, hs2⟩
            rw [if_pos hss'] at hstep
            obtain ⟨w1, w2⟩ := endW K (by rw [hstep]; exact hi1) (by rw [hstep]) hlp1
            rw [hs1, hs2] at hla2
            repeat' (first | refine spD (fun _ => ?_) (fun _ => ?_) | refine spF (fun _ => ?_) (fun _ => ?_) | (apply gT; (exact rfl)) | (apply off; (exact rfl); (exact rfl)) | (apply condT; (exact rfl)) | (apply condF; (exact rfl)) | ((first | (apply stp0; (exact rfl); (exact rfl)) | (apply stpN0; (exact rfl)) | apply gT | apply condT | ((first | apply bodyQ_d0 | apply bodyQ_d1 | apply bodyQ_d2 | apply bodyQ_d3 | apply bodyQ_d4); (exact .inr rfl); (rw [Try.results32]))); (first | (focus (simp only [go_sem, ↓reduceIte, simprocAttr, t2, t4, t5, t6, hx, hha1, hha2, hla2, ha, bne_self_eq_false] <;> rfl)) | exact rfl); (first | (fail_if_success (show okD _ _ _ _ _ _ _ _ _)) | (first | exact okT | exact okN | exact okE rfl)); (first | (fail_if_success (show Bel _ _)) | (focus first | exact .val _ | (simp [oneOf, Bel_iff_tup, Bel_iff_agg, Bel_iff_rsl, Bel_iff_fn, Bel_iff_rptr, Bel_val]; done)))) | refine thenQ_n ?_ | refine thenQ_r ?_ | refine thenQ_e ?_ | refine blockQ_n ?_ | refine blockQ_r ?_ | refine blockQ_e ?_ | (apply blockQ_o; (exact rfl)) | refine Awp.seq ?_ | refine Awp.skip ?_ | refine Awp.block ?_ | refine reg (fun s => s == 4 || s == 5 || s == 6) ?_ | (apply drwE mixed (fun s => s == 4 || s == 5 || s == 6); (kernel_rfl)) | refine fin ?_ | refine Awp.ret ?_ | refine Awp.exit ?_ | ((first | (apply off; (exact rfl)) | apply condF); (first | (focus (simp only [go_sem, ↓reduceIte, simprocAttr, t2, t4, t5, t6, hx, hha1, hha2, hla2, ha, bne_self_eq_false] <;> rfl)) | exact rfl)))
            all_goals first | contradiction | skip
            exact ⟨w1, w2⟩
          · have hss' : sameE l e = false := by unfold sameE; rw [decide_eq_false_iff_not]; exact fun h => hs2 h.2
            rw [if_neg (by rw [hss']; decide)] at hstep
            rw [hs1] at hla2
            repeat' (first | refine spD (fun _ => ?_) (fun _ => ?_) | refine spF (fun _ => ?_) (fun _ => ?_) | (apply gT; (exact rfl)) | (apply off; (exact rfl); (exact rfl)) | (apply condT; (exact rfl)) | (apply condF; (exact rfl)) | ((first | (apply stp0; (exact rfl); (exact rfl)) | (apply stpN0; (exact rfl)) | apply gT | apply condT | ((first | apply bodyQ_d0 | apply bodyQ_d1 | apply bodyQ_d2 | apply bodyQ_d3 | apply bodyQ_d4); (exact .inr rfl); (rw [Try.results32]))); (first | (focus (simp only [go_sem, ↓reduceIte, simprocAttr, t2, t3, t4, t5, t6, hx, hha1, hla2, ha, hs2, ne_eq, not_false_eq_true, bne_self_eq_false] <;> rfl)) | exact rfl); (first | (fail_if_success (show okD _ _ _ _ _ _ _ _ _)) | (first | exact okT | exact okN | exact okE rfl)); (first | (fail_if_success (show Bel _ _)) | (focus first | exact .val _ | (simp [oneOf, Bel_iff_tup, Bel_iff_agg, Bel_iff_rsl, Bel_iff_fn, Bel_iff_rptr, Bel_val]; done)))) | refine thenQ_n ?_ | refine thenQ_r ?_ | refine thenQ_e ?_ | refine blockQ_n ?_ | refine blockQ_r ?_ | refine blockQ_e ?_ | (apply blockQ_o; (exact rfl)) | refine Awp.seq ?_ | refine Awp.skip ?_ | refine Awp.block ?_ | refine reg (fun s => s == 4 || s == 5 || s == 6) ?_ | (apply drwE mixed (fun s => s == 4 || s == 5 || s == 6); (kernel_rfl)) | refine fin ?_ | refine Awp.ret ?_ | refine Awp.exit ?_ | ((first | (apply off; (exact rfl)) | apply condF); (first | (focus (simp only [go_sem, ↓reduceIte, simprocAttr, t2, t3, t4, t5, t6, hx, hha1, hla2, ha, hs2, ne_eq, not_false_eq_true, bne_self_eq_false] <;> rfl)) | exact rfl)))
            all_goals first | contradiction | skip
            refine cal rfl rfl rfl ?_ (show ACallV Try.prog (.fn (.yield bk) []) [l.av] K _ from hcall hss') ?_
            · (first | (focus (simp only [go_sem, ↓reduceIte, simprocAttr, Ent.av, Ent.cs, hs1]; first | done | rfl)) | rfl)
            rintro v1 K2 (⟨rfl, h, hq⟩ | ⟨rfl, h, hq⟩)
            · have hx2 := (hq.new _ (Nat.le_refl _) hxl).trans hx
              have hla3 := hq.kn.k0.trans hla2
              have hha3 := hq.kn.k1.trans hha1
              have hlp3 := hq.kn.k2.trans hlp1
              have hha4 : ∀ c, (K2.set H.length c)[H.length + 1]? = some (.cells [[bv true]] 4) := fun c => by rw [List.getElem?_set_ne (by omega)]; exact hha3
              obtain ⟨w1, w2⟩ := endW K2 (by rw [hstep, List.length_append]; exact h) (by rw [hstep]) hlp3
              repeat' (first | refine spD (fun _ => ?_) (fun _ => ?_) | refine spF (fun _ => ?_) (fun _ => ?_) | (apply gT; (exact rfl)) | (apply off; (exact rfl); (exact rfl)) | (apply condT; (exact rfl)) | (apply condF; (exact rfl)) | ((first | (apply stp0; (exact rfl); (exact rfl)) | (apply stpN0; (exact rfl)) | apply gT | apply condT | ((first | apply bodyQ_d0 | apply bodyQ_d1 | apply bodyQ_d2 | apply bodyQ_d3 | apply bodyQ_d4); (exact .inr rfl); (rw [Try.results32]))); (first | (focus (simp only [go_sem, ↓reduceIte, simprocAttr, t4, t5, t6, hx2, hha3, hha4, hla3] <;> rfl)) | exact rfl); (first | (fail_if_success (show okD _ _ _ _ _ _ _ _ _)) | (first | exact okT | exact okN | exact okE rfl)); (first | (fail_if_success (show Bel _ _)) | (focus first | exact .val _ | (simp [oneOf, Bel_iff_tup, Bel_iff_agg, Bel_iff_rsl, Bel_iff_fn, Bel_iff_rptr, Bel_val]; done)))) | refine thenQ_n ?_ | refine thenQ_r ?_ | refine thenQ_e ?_ | refine blockQ_n ?_ | refine blockQ_r ?_ | refine blockQ_e ?_ | (apply blockQ_o; (exact rfl)) | refine Awp.seq ?_ | refine Awp.skip ?_ | refine Awp.block ?_ | refine reg (fun s => s == 4 || s == 5 || s == 6) ?_ | (apply drwE mixed (fun s => s == 4 || s == 5 || s == 6); (kernel_rfl)) | refine fin ?_ | refine Awp.ret ?_ | refine Awp.exit ?_ | ((first | (apply off; (exact rfl)) | apply condF); (first | (focus (simp only [go_sem, ↓reduceIte, simprocAttr, t4, t5, t6, hx2, hha3, hha4, hla3] <;> rfl)) | exact rfl)))
              all_goals first | contradiction | skip
              exact ⟨w1, w2⟩
            · repeat' (first | refine spD (fun _ => ?_) (fun _ => ?_) | refine spF (fun _ => ?_) (fun _ => ?_) | (apply gT; (exact rfl)) | (apply off; (exact rfl); (exact rfl)) | (apply condT; (exact rfl)) | (apply condF; (exact rfl)) | ((first | (apply stp0; (exact rfl); (exact rfl)) | (apply stpN0; (exact rfl)) | apply gT | apply condT | ((first | apply bodyQ_d0 | apply bodyQ_d1 | apply bodyQ_d2 | apply bodyQ_d3 | apply bodyQ_d4); (exact .inr rfl); (rw [Try.results32]))); (first | (focus (simp only [go_sem, ↓reduceIte, simprocAttr] <;> rfl)) | exact rfl); (first | (fail_if_success (show okD _ _ _ _ _ _ _ _ _)) | (first | exact okT | exact okN | exact okE rfl)); (first | (fail_if_success (show Bel _ _)) | (focus first | exact .val _ | (simp [oneOf, Bel_iff_tup, Bel_iff_agg, Bel_iff_rsl, Bel_iff_fn, Bel_iff_rptr, Bel_val]; done)))) | refine thenQ_n ?_ | refine thenQ_r ?_ | refine thenQ_e ?_ | refine blockQ_n ?_ | refine blockQ_r ?_ | refine blockQ_e ?_ | (apply blockQ_o; (exact rfl)) | refine Awp.seq ?_ | refine Awp.skip ?_ | refine Awp.block ?_ | refine reg (fun s => s == 4 || s == 5 || s == 6) ?_ | (apply drwE mixed (fun s => s == 4 || s == 5 || s == 6); (kernel_rfl)) | refine fin ?_ | refine Awp.ret ?_ | refine Awp.exit ?_ | ((first | (apply off; (exact rfl)) | apply condF); (first | (focus (simp only [go_sem, ↓reduceIte, simprocAttr] <;> rfl)) | exact rfl)))
              all_goals first | contradiction | skip
              exact ⟨hq.kn.k2.trans hlp1, hss _ _ h ((Kp.of (Grow.refl K2)).set (.inr (.inr rfl)) _)⟩
        · have hss' : sameE l e = false := by unfold sameE; rw [decide_eq_false_iff_not]; exact fun h => hs1 h.1
          rw [if_neg (by rw [hss']; decide)] at hstep
          repeat' (first | refine spD (fun _ => ?_) (fun _ => ?_) | refine spF (fun _ => ?_) (fun _ => ?_) | (apply gT; (exact rfl)) | (apply off; (exact rfl); (exact rfl)) | (apply condT; (exact rfl)) | (apply condF; (exact rfl)) | ((first | (apply stp0; (exact rfl); (exact rfl)) | (apply stpN0; (exact rfl)) | apply gT | apply condT | ((first | apply bodyQ_d0 | apply bodyQ_d1 | apply bodyQ_d2 | apply bodyQ_d3 | apply bodyQ_d4); (exact .inr rfl); (rw [Try.results32]))); (first | (focus (simp only [go_sem, ↓reduceIte, simprocAttr, t2, t3, t4, t5, t6, hx, hha1, hla2, ha, hs1, ne_eq, not_false_eq_true, bne_self_eq_false] <;> rfl)) | exact rfl); (first | (fail_if_success (show okD _ _ _ _ _ _ _ _ _)) | (first | exact okT | exact okN | exact okE rfl)); (first | (fail_if_success (show Bel _ _)) | (focus first | exact .val _ | (simp [oneOf, Bel_iff_tup, Bel_iff_agg, Bel_iff_rsl, Bel_iff_fn, Bel_iff_rptr, Bel_val]; done)))) | refine thenQ_n ?_ | refine thenQ_r ?_ | refine thenQ_e ?_ | refine blockQ_n ?_ | refine blockQ_r ?_ | refine blockQ_e ?_ | (apply blockQ_o; (exact rfl)) | refine Awp.seq ?_ | refine Awp.skip ?_ | refine Awp.block ?_ | refine reg (fun s => s == 4 || s == 5 || s == 6) ?_ | (apply drwE mixed (fun s => s == 4 || s == 5 || s == 6); (kernel_rfl)) | refine fin ?_ | refine Awp.ret ?_ | refine Awp.exit ?_ | ((first | (apply off; (exact rfl)) | apply condF); (first | (focus (simp only [go_sem, ↓reduceIte, simprocAttr, t2, t3, t4, t5, t6, hx, hha1, hla2, ha, hs1, ne_eq, not_false_eq_true, bne_self_eq_false] <;> rfl)) | exact rfl)))
          all_goals first | contradiction | skip
          refine cal rfl rfl rfl ?_ (show ACallV Try.prog (.fn (.yield bk) []) [l.av] K _ from hcall hss') ?_
          · (first | (focus (simp only [go_sem, ↓reduceIte, simprocAttr, Ent.av, Ent.cs]; first | done | rfl)) | rfl)
          rintro v1 K2 (⟨rfl, h, hq⟩ | ⟨rfl, h, hq⟩)
          · have hx2 := (hq.new _ (Nat.le_refl _) hxl).trans hx
            have hla3 := hq.kn.k0.trans hla2
            have hha3 := hq.kn.k1.trans hha1
            have hlp3 := hq.kn.k2.trans hlp1
            have hha4 : ∀ c, (K2.set H.length c)[H.length + 1]? = some (.cells [[bv true]] 4) := fun c => by rw [List.getElem?_set_ne (by omega)]; exact hha3
            obtain ⟨w1, w2⟩ := endW K2 (by rw [hstep, List.length_append]; exact h) (by rw [hstep]) hlp3
            repeat' (first | refine spD (fun _ => ?_) (fun _ => ?_) | refine spF (fun _ => ?_) (fun _ => ?_) | (apply gT; (exact rfl)) | (apply off; (exact rfl); (exact rfl)) | (apply condT; (exact rfl)) | (apply condF; (exact rfl)) | ((first | (apply stp0; (exact rfl); (exact rfl)) | (apply stpN0; (exact rfl)) | apply gT | apply condT | ((first | apply bodyQ_d0 | apply bodyQ_d1 | apply bodyQ_d2 | apply bodyQ_d3 | apply bodyQ_d4); (exact .inr rfl); (rw [Try.results32]))); (first | (focus (simp only [go_sem, ↓reduceIte, simprocAttr, t4, t5, t6, hx2, hha3, hha4, hla3] <;> rfl)) | exact rfl); (first | (fail_if_success (show okD _ _ _ _ _ _ _ _ _)) | (first | exact okT | exact okN | exact okE rfl)); (first | (fail_if_success (show Bel _ _)) | (focus first | exact .val _ | (simp [oneOf, Bel_iff_tup, Bel_iff_agg, Bel_iff_rsl, Bel_iff_fn, Bel_iff_rptr, Bel_val]; done)))) | refine thenQ_n ?_ | refine thenQ_r ?_ | refine thenQ_e ?_ | refine blockQ_n ?_ | refine blockQ_r ?_ | refine blockQ_e ?_ | (apply blockQ_o; (exact rfl)) | refine Awp.seq ?_ | refine Awp.skip ?_ | refine Awp.block ?_ | refine reg (fun s => s == 4 || s == 5 || s == 6) ?_ | (apply drwE mixed (fun s => s == 4 || s == 5 || s == 6); (kernel_rfl)) | refine fin ?_ | refine Awp.ret ?_ | refine Awp.exit ?_ | ((first | (apply off; (exact rfl)) | apply condF); (first | (focus (simp only [go_sem, ↓reduceIte, simprocAttr, t4, t5, t6, hx2, hha3, hha4, hla3] <;> rfl)) | exact rfl)))
            all_goals first | contradiction | skip
            exact ⟨w1, w2⟩
          · repeat' (first | refine spD (fun _ => ?_) (fun _ => ?_) | refine spF (fun _ => ?_) (fun _ => ?_) | (apply gT; (exact rfl)) | (apply off; (exact rfl); (exact rfl)) | (apply condT; (exact rfl)) | (apply condF; (exact rfl)) | ((first | (apply stp0; (exact rfl); (exact rfl)) | (apply stpN0; (exact rfl)) | apply gT | apply condT | ((first | apply bodyQ_d0 | apply bodyQ_d1 | apply bodyQ_d2 | apply bodyQ_d3 | apply bodyQ_d4); (exact .inr rfl); (rw [Try.results32]))); (first | (focus (simp only [go_sem, ↓reduceIte, simprocAttr] <;> rfl)) | exact rfl); (first | (fail_if_success (show okD _ _ _ _ _ _ _ _ _)) | (first | exact okT | exact okN | exact okE rfl)); (first | (fail_if_success (show Bel _ _)) | (focus first | exact .val _ | (simp [oneOf, Bel_iff_tup, Bel_iff_agg, Bel_iff_rsl, Bel_iff_fn, Bel_iff_rptr, Bel_val]; done)))) | refine thenQ_n ?_ | refine thenQ_r ?_ | refine thenQ_e ?_ | refine blockQ_n ?_ | refine blockQ_r ?_ | refine blockQ_e ?_ | (apply blockQ_o; (exact rfl)) | refine Awp.seq ?_ | refine Awp.skip ?_ | refine Awp.block ?_ | refine reg (fun s => s == 4 || s == 5 || s == 6) ?_ | (apply drwE mixed (fun s => s == 4 || s == 5 || s == 6); (kernel_rfl)) | refine fin ?_ | refine Awp.ret ?_ | refine Awp.exit ?_ | ((first | (apply off; (exact rfl)) | apply condF); (first | (focus (simp only [go_sem, ↓reduceIte, simprocAttr] <;> rfl)) | exact rfl)))
            all_goals first | contradiction | skip
            exact ⟨hq.kn.k2.trans hlp1, hss _ _ h ((Kp.of (Grow.refl K2)).set (.inr (.inr rfl)) _)⟩
  · intro H1 ob hI hlp
    rw [hAl] at hlp ⊢
    obtain ⟨hi, hla, hha⟩ := hI
    rw [List.take_length] at hi hla hha
    have hi2 := hst _ _ (H1.set (H.length + 2) .dead) hi ((Kp.of (Grow.refl H1)).set (.inr (.inr rfl)) .dead)
    have hla2 : (H1.set (H.length + 2) .dead)[H.length]? = _ := (List.getElem?_set_ne (by omega)).trans hla
    have hha2 : (H1.set (H.length + 2) .dead)[H.length + 1]? = _ := (List.getElem?_set_ne (by omega)).trans hha
    have hKl : H.length + 2 < (H1.set (H.length + 2) .dead).length := by rw [List.length_set]; exact (List.getElem?_eq_some_iff.1 hlp).1
    generalize H1.set (H.length + 2) .dead = K at *
    clear hi hla hha hlp H1
    cases hc : (cntS asOf L).2 with
    | none =>
      have hlen2 : (cntL asOf L).length = (cntS asOf L).1.length := by unfold cntL; rw [hc]; simp
      rw [hc] at hha2
      repeat' (first | refine spD (fun _ => ?_) (fun _ => ?_) | refine spF (fun _ => ?_) (fun _ => ?_) | (apply gT; (exact rfl)) | (apply off; (exact rfl); (exact rfl)) | (apply condT; (exact rfl)) | (apply condF; (exact rfl)) | ((first | (apply stp0; (exact rfl); (exact rfl)) | (apply stpN0; (exact rfl)) | apply gT | apply condT); (first | (focus (simp only [go_sem, ↓reduceIte, simprocAttr, t5, hha2, Option.isSome_none] <;> rfl)) | exact rfl); (first | (fail_if_success (show okD _ _ _ _ _ _ _ _ _)) | (first | exact okT | exact okN | exact okE rfl))) | refine thenQ_n ?_ | refine thenQ_r ?_ | refine thenQ_e ?_ | refine blockQ_n ?_ | refine blockQ_r ?_ | refine blockQ_e ?_ | (apply blockQ_o; (exact rfl)) | refine Awp.seq ?_ | refine Awp.skip ?_ | refine Awp.block ?_ | refine reg (fun s => s == 4 || s == 5 || s == 6) ?_ | (apply drwE mixed (fun s => s == 4 || s == 5 || s == 6); (kernel_rfl)) | refine fin ?_ | refine Awp.ret ?_ | refine Awp.exit ?_ | ((first | (apply off; (exact rfl)) | apply condF); (first | (focus (simp only [go_sem, ↓reduceIte, simprocAttr, t5, hha2, Option.isSome_none] <;> rfl)) | exact rfl)))
      all_goals first | contradiction | skip
      exact bodyQ_eq (.inl rfl) (by rw [Try.results32]; simp only [go_sem, ↓reduceIte, simprocAttr]; rfl) (.inl (by rw [hlen2]; exact hi2))
    | some l =>
      have hlen2 : (cntL asOf L).length = (cntS asOf L).1.length + 1 := by unfold cntL; rw [hc]; simp
      have hget : (cntL asOf L)[(cntS asOf L).1.length]? = some l := by
        unfold cntL; rw [hc, List.getElem?_append_right (Nat.le_refl _), Nat.sub_self]; rfl
      rw [hc] at hha2 hla2
      have hla3 : K[H.length]? = some (.cells [l.cs] 31) := hla2
      simp only [Ent.cs] at hla3
      have hcall := hy _ l K K hget hi2 (Kp.of (Grow.refl K)) hKl
      repeat' (first | refine spD (fun _ => ?_) (fun _ => ?_) | refine spF (fun _ => ?_) (fun _ => ?_) | (apply gT; (exact rfl)) | (apply off; (exact rfl); (exact rfl)) | (apply condT; (exact rfl)) | (apply condF; (exact rfl)) | ((first | (apply stp0; (exact rfl); (exact rfl)) | (apply stpN0; (exact rfl)) | apply gT | apply condT | ((first | apply bodyQ_d0 | apply bodyQ_d1 | apply bodyQ_d2 | apply bodyQ_d3 | apply bodyQ_d4); (exact .inr rfl); (rw [Try.results32]))); (first | (focus (simp only [go_sem, ↓reduceIte, simprocAttr, t3, t4, t5, hha2, hla3, Option.isSome_some] <;> rfl)) | exact rfl); (first | (fail_if_success (show okD _ _ _ _ _ _ _ _ _)) | (first | exact okT | exact okN | exact okE rfl)); (first | (fail_if_success (show Bel _ _)) | (focus first | exact .val _ | (simp [oneOf, Bel_iff_tup, Bel_iff_agg, Bel_iff_rsl, Bel_iff_fn, Bel_iff_rptr, Bel_val]; done)))) | refine thenQ_n ?_ | refine thenQ_r ?_ | refine thenQ_e ?_ | refine blockQ_n ?_ | refine blockQ_r ?_ | refine blockQ_e ?_ | (apply blockQ_o; (exact rfl)) | refine Awp.seq ?_ | refine Awp.skip ?_ | refine Awp.block ?_ | refine reg (fun s => s == 4 || s == 5 || s == 6) ?_ | (apply drwE mixed (fun s => s == 4 || s == 5 || s == 6); (kernel_rfl)) | refine fin ?_ | refine Awp.ret ?_ | refine Awp.exit ?_ | ((first | (apply off; (exact rfl)) | apply condF); (first | (focus (simp only [go_sem, ↓reduceIte, simprocAttr, t3, t4, t5, hha2, hla3, Option.isSome_some] <;> rfl)) | exact rfl)))
      all_goals first | contradiction | skip
      refine cal rfl rfl rfl ?_ (show ACallV Try.prog (.fn (.yield bk) []) [l.av] K _ from hcall) ?_
      · (first | (focus (simp only [go_sem, ↓reduceIte, simprocAttr, Ent.av, Ent.cs]; first | done | rfl)) | rfl)
      rintro v1 K2 (⟨rfl, h, _⟩ | ⟨rfl, h, _⟩)
      · repeat' (first | refine spD (fun _ => ?_) (fun _ => ?_) | refine spF (fun _ => ?_) (fun _ => ?_) | (apply gT; (exact rfl)) | (apply off; (exact rfl); (exact rfl)) | (apply condT; (exact rfl)) | (apply condF; (exact rfl)) | ((first | (apply stp0; (exact rfl); (exact rfl)) | (apply stpN0; (exact rfl)) | apply gT | apply condT); (first | (focus (simp only [go_sem, ↓reduceIte, simprocAttr] <;> rfl)) | exact rfl); (first | (fail_if_success (show okD _ _ _ _ _ _ _ _ _)) | (first | exact okT | exact okN | exact okE rfl))) | refine thenQ_n ?_ | refine thenQ_r ?_ | refine thenQ_e ?_ | refine blockQ_n ?_ | refine blockQ_r ?_ | refine blockQ_e ?_ | (apply blockQ_o; (exact rfl)) | refine Awp.seq ?_ | refine Awp.skip ?_ | refine Awp.block ?_ | refine reg (fun s => s == 4 || s == 5 || s == 6) ?_ | (apply drwE mixed (fun s => s == 4 || s == 5 || s == 6); (kernel_rfl)) | refine fin ?_ | refine Awp.ret ?_ | refine Awp.exit ?_ | ((first | (apply off; (exact rfl)) | apply condF); (first | (focus (simp only [go_sem, ↓reduceIte, simprocAttr] <;> rfl)) | exact rfl)))
        all_goals first | contradiction | skip
        exact bodyQ_eq (.inl rfl) (by rw [Try.results32]; simp only [go_sem, ↓reduceIte, simprocAttr]; rfl) (.inl (by rw [hlen2]; exact h))
      · repeat' (first | refine spD (fun _ => ?_) (fun _ => ?_) | refine spF (fun _ => ?_) (fun _ => ?_) | (apply gT; (exact rfl)) | (apply off; (exact rfl); (exact rfl)) | (apply condT; (exact rfl)) | (apply condF; (exact rfl)) | ((first | (apply stp0; (exact rfl); (exact rfl)) | (apply stpN0; (exact rfl)) | apply gT | apply condT); (first | (focus (simp only [go_sem, ↓reduceIte, simprocAttr] <;> rfl)) | exact rfl); (first | (fail_if_success (show okD _ _ _ _ _ _ _ _ _)) | (first | exact okT | exact okN | exact okE rfl))) | refine thenQ_n ?_ | refine thenQ_r ?_ | refine thenQ_e ?_ | refine blockQ_n ?_ | refine blockQ_r ?_ | refine blockQ_e ?_ | (apply blockQ_o; (exact rfl)) | refine Awp.seq ?_ | refine Awp.skip ?_ | refine Awp.block ?_ | refine reg (fun s => s == 4 || s == 5 || s == 6) ?_ | (apply drwE mixed (fun s => s == 4 || s == 5 || s == 6); (kernel_rfl)) | refine fin ?_ | refine Awp.ret ?_ | refine Awp.exit ?_ | ((first | (apply off; (exact rfl)) | apply condF); (first | (focus (simp only [go_sem, ↓reduceIte, simprocAttr] <;> rfl)) | exact rfl)))
        all_goals first | contradiction | skip
        exact bodyQ_eq (.inl rfl) (by rw [Try.results32]; simp only [go_sem, ↓reduceIte, simprocAttr]; rfl) (.inr h)
  · intro H1 hS
    repeat' (first | refine spD (fun _ => ?_) (fun _ => ?_) | refine spF (fun _ => ?_) (fun _ => ?_) | (apply gT; (exact rfl)) | (apply off; (exact rfl); (exact rfl)) | (apply condT; (exact rfl)) | (apply condF; (exact rfl)) | ((first | (apply stp0; (exact rfl); (exact rfl)) | (apply stpN0; (exact rfl)) | apply gT | apply condT); (first | (focus (simp only [go_sem, ↓reduceIte, simprocAttr] <;> rfl)) | exact rfl); (first | (fail_if_success (show okD _ _ _ _ _ _ _ _ _)) | (first | exact okT | exact okN | exact okE rfl))) | refine thenQ_n ?_ | refine thenQ_r ?_ | refine thenQ_e ?_ | refine blockQ_n ?_ | refine blockQ_r ?_ | refine blockQ_e ?_ | (apply blockQ_o; (exact rfl)) | refine Awp.seq ?_ | refine Awp.skip ?_ | refine Awp.block ?_ | refine reg (fun s => s == 4 || s == 5 || s == 6) ?_ | (apply drwE mixed (fun s => s == 4 || s == 5 || s == 6); (kernel_rfl)) | refine fin ?_ | refine Awp.ret ?_ | refine Awp.exit ?_ | ((first | (apply off; (exact rfl)) | apply condF); (first | (focus (simp only [go_sem, ↓reduceIte, simprocAttr] <;> rfl)) | exact rfl)))
    all_goals first | contradiction | skip
    exact bodyQ_eq (.inr rfl) (by rw [Try.results32]; simp only [go_sem, ↓reduceIte, simprocAttr]; rfl) (.inr hS)

end Go.Proofs.Ytdmgljlabigljaa.Ab
