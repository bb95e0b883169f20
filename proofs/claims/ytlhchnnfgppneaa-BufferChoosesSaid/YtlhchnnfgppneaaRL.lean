/- The law BufferChooses. -/
import Derived.Test.YtlhchnnfgppneaaRK
import Derived.Test.YtlhchnnfgppneaaRC
namespace Go.Proofs.Ytlhchnnfgppneaa.Ab
open Go Go.RowKit Go.Proofs
set_option linter.unusedSimpArgs false
set_option linter.unusedVariables false
attribute [local irreducible] Awp wpO thenQ blockQ bodyQ ACalls stepA

set_option maxRecDepth 8000 in
set_option maxHeartbeats 8000000 in
theorem tail9 {T : Env} {K : Hp} {A : List Int} {w e : Int} {Q : Exit → Env → Hp → Prop} (t5 : T 5 = .rsl (ints A) false) (t8 : T 8 = .rsl (ints A) false) (t6 : T 6 = iv w) (t9 : T 9 = iv w) (t7 : T 7 = iv e) (t10 : T 10 = iv e) (hA : A.length ≤ 24)
    (hQ : ∀ T' K', T' 4 = bv true → Q .ret T' K') : Awp Try.prog 71 none (tlD (tlD (tlD (tlD (Try.f9.body.getD .skip))))) T K Q := by
  have hAn := ints_len A
  unfold Try.f9
  simp only [tlD, Option.getD_some]
  repeat' ((fail_if_success (apply stopR (id := 8))); (fail_if_success (apply stopS (id := 8))); first | refine spD (fun _ => ?_) (fun _ => ?_) | refine spF (fun _ => ?_) (fun _ => ?_) | (apply gT; (exact rfl)) | (apply off; (exact rfl); (exact rfl)) | (apply condT; (exact rfl)) | (apply condF; (exact rfl)) | ((first | (apply stp0; (exact rfl); (exact rfl)) | (apply stpN0; (exact rfl)) | apply gT | apply condT | ((first | apply bodyQ_d0 | apply bodyQ_d1 | apply bodyQ_d2 | apply bodyQ_d3 | apply bodyQ_d4); (exact .inr rfl); (rw [Try.results9]))); (first | (focus (simp only [go_sem, ↓reduceIte, simprocAttr, t5, t6, t7, t8, t9, t10, hAn, bne_self_eq_false] <;> rfl)) | exact rfl); (first | (fail_if_success (show okD _ _ _ _ _ _ _ _ _)) | (first | exact okT | exact okN | exact okE rfl)); (first | (fail_if_success (show Bel _ _)) | (focus first | exact .val _ | (simp [oneOf, Bel_iff_tup, Bel_iff_agg, Bel_iff_rsl, Bel_iff_fn, Bel_iff_rptr, Bel_val]; done)))) | refine thenQ_n ?_ | refine thenQ_r ?_ | refine thenQ_e ?_ | refine blockQ_n ?_ | refine blockQ_r ?_ | refine blockQ_e ?_ | (apply blockQ_o; (exact rfl)) | refine Awp.seq ?_ | refine Awp.skip ?_ | refine Awp.block ?_ | refine reg (fun s => false) ?_ | (apply drwE mixed (fun s => false); (kernel_rfl)) | refine fin ?_ | refine Awp.ret ?_ | refine Awp.exit ?_ | ((first | (apply off; (exact rfl)) | apply condF); (first | (focus (simp only [go_sem, ↓reduceIte, simprocAttr, t5, t6, t7, t8, t9, t10, hAn, bne_self_eq_false] <;> rfl)) | exact rfl)))
  all_goals first | contradiction | skip
  refine Awp.loop (ι := Nat) (fun i T' K' => i ≤ A.length ∧ T' 5 = .rsl (ints A) false ∧ T' 8 = .rsl (ints A) false ∧ T' 11 = iv i) (fun i => A.length - i) 0 ?_ ?_
  · exact ⟨Nat.zero_le _, by (first | (focus (simp only [go_sem, ↓reduceIte, simprocAttr, t5]; first | done | rfl)) | rfl), by (first | (focus (simp only [go_sem, ↓reduceIte, simprocAttr, t8]; first | done | rfl)) | rfl), by (first | (focus (simp only [go_sem, ↓reduceIte, simprocAttr]; first | done | rfl)) | rfl)⟩
  clear t5 t6 t7 t8 t9 t10 T
  rintro i T K ⟨hi, t5, t8, t11⟩
  by_cases hil : i < A.length
  · obtain ⟨x, hx⟩ := nth hil
    have hxc : (ints A)[i]? = some [iv x] := nthMap (fun x => [iv x]) hx
    have hw := wsucc hil (show A.length ≤ maxLen by simp only [maxLen]; omega)
    have hil2 : (i : Int) < A.length := Int.ofNat_lt.2 hil
    have hi0 : (0 : Int) ≤ i := by omega
    repeat' (first | refine spD (fun _ => ?_) (fun _ => ?_) | refine spF (fun _ => ?_) (fun _ => ?_) | (apply gT; (exact rfl)) | (apply off; (exact rfl); (exact rfl)) | (apply condT; (exact rfl)) | (apply condF; (exact rfl)) | ((first | (apply stp0; (exact rfl); (exact rfl)) | (apply stpN0; (exact rfl)) | apply gT | apply condT | ((first | apply bodyQ_d0 | apply bodyQ_d1 | apply bodyQ_d2 | apply bodyQ_d3 | apply bodyQ_d4); (exact .inr rfl); (rw [Try.results9]))); (first | (focus (simp only [go_sem, ↓reduceIte, simprocAttr, t5, t8, t11, hAn, hxc, hil2, hi0, Int.toNat_natCast, bne_self_eq_false, hw] <;> rfl)) | exact rfl); (first | (fail_if_success (show okD _ _ _ _ _ _ _ _ _)) | (first | exact okT | exact okN | exact okE rfl)); (first | (fail_if_success (show Bel _ _)) | (focus first | exact .val _ | (simp [oneOf, Bel_iff_tup, Bel_iff_agg, Bel_iff_rsl, Bel_iff_fn, Bel_iff_rptr, Bel_val]; done)))) | refine thenQ_n ?_ | refine thenQ_r ?_ | refine thenQ_e ?_ | refine blockQ_n ?_ | refine blockQ_r ?_ | refine blockQ_e ?_ | (apply blockQ_o; (exact rfl)) | refine Awp.seq ?_ | refine Awp.skip ?_ | refine Awp.block ?_ | refine reg (fun s => false) ?_ | (apply drwE mixed (fun s => false); (kernel_rfl)) | refine fin ?_ | refine Awp.ret ?_ | refine Awp.exit ?_ | ((first | (apply off; (exact rfl)) | apply condF); (first | (focus (simp only [go_sem, ↓reduceIte, simprocAttr, t5, t8, t11, hAn, hxc, hil2, hi0, Int.toNat_natCast, bne_self_eq_false, hw] <;> rfl)) | exact rfl)))
    all_goals first | contradiction | skip
    exact ⟨i + 1, ⟨hil, by (first | (focus (simp only [go_sem, ↓reduceIte, simprocAttr, t5]; first | done | rfl)) | rfl), by (first | (focus (simp only [go_sem, ↓reduceIte, simprocAttr, t8]; first | done | rfl)) | rfl), by (first | (focus (simp only [go_sem, ↓reduceIte, simprocAttr, hw]; first | done | rfl)) | rfl)⟩, Nat.sub_lt_sub_left hil (Nat.lt_succ_self i)⟩
  · have e : i = A.length := by omega
    subst e
    repeat' (first | refine spD (fun _ => ?_) (fun _ => ?_) | refine spF (fun _ => ?_) (fun _ => ?_) | (apply gT; (exact rfl)) | (apply off; (exact rfl); (exact rfl)) | (apply condT; (exact rfl)) | (apply condF; (exact rfl)) | ((first | (apply stp0; (exact rfl); (exact rfl)) | (apply stpN0; (exact rfl)) | apply gT | apply condT); (first | (focus (simp only [go_sem, ↓reduceIte, simprocAttr, Int.lt_irrefl, t5, t11, hAn] <;> rfl)) | exact rfl); (first | (fail_if_success (show okD _ _ _ _ _ _ _ _ _)) | (first | exact okT | exact okN | exact okE rfl))) | (apply calTo0; (exact rfl); (iterate 2 (simp only [go_sem, ↓reduceIte, simprocAttr, Int.lt_irrefl, t5, t11, hAn]; rfl)); (first | exact fine_ok _); (first | exact okT | exact okN | exact okE rfl)) | refine thenQ_n ?_ | refine thenQ_r ?_ | refine thenQ_e ?_ | refine blockQ_n ?_ | refine blockQ_r ?_ | refine blockQ_e ?_ | (apply blockQ_o; (exact rfl)) | refine Awp.seq ?_ | refine Awp.skip ?_ | refine Awp.block ?_ | refine reg (fun s => false) ?_ | (apply drwE mixed (fun s => false); (kernel_rfl)) | refine fin ?_ | refine Awp.ret ?_ | refine Awp.exit ?_ | ((first | (apply off; (exact rfl)) | apply condF); (first | (focus (simp only [go_sem, ↓reduceIte, simprocAttr, Int.lt_irrefl, t5, t11, hAn] <;> rfl)) | exact rfl)))
    all_goals first | contradiction | skip
    exact hQ _ _ (by (first | (focus (simp only [go_sem, ↓reduceIte, simprocAttr]; first | done | rfl)) | rfl))

set_option maxRecDepth 8000 in
set_option maxHeartbeats 8000000 in
theorem mid9 (H : Hp) (l : List Pr) (ex : Bool) (room : Int) {A : List Int} {w e : Int} (hl : (¬ (l.length : Int) > 11) ∨ ((l.length : Int) > 11 ∧ ¬ (l.length : Int) ≤ 24 ∧ ¬ (l.length : Int) > 40)) (hA : A.length ≤ 24)
    (hB : ∀ H, ACalls Try.prog 45 [.rsl (prs l) ex, iv room] H fun v K => ∃ a, v = .tup [a, iv w, iv e] ∧ Own H.length 3 K a (ints A))
    (hR : ∀ H, ACalls Try.prog 46 [.rsl (prs l) ex, iv room] H fun v K => ∃ b, v = .tup [b, iv w, iv e] ∧ ((b = nilS ∧ A = []) ∨ b = .rsl (ints A) false)) :
    ACalls Try.prog 9 [.rsl (prs l) ex, iv room] H fun v _ => v = bv true := by
  have hpl := prs_len l
  have h40 : (l.length : Int) ≤ 24 → ¬ (l.length : Int) > 40 := fun h => by omega
  have h41 : ¬ (l.length : Int) > 11 → ¬ (l.length : Int) > 40 := fun h => by omega
  have fin9 : ∀ {T : Env} {K : Hp} {Q : Exit → Env → Hp → Prop}, T 0 = .rsl (prs l) ex → T 1 = iv room → (∀ T' K', T' 4 = bv true → Q .ret T' K') → Awp Try.prog 71 none (tlD (tlD (Try.f9.body.getD .skip))) T K Q := by
    intro T K Q t0 t1 hQ
    unfold Try.f9
    simp only [tlD, Option.getD_some]
    repeat' (first | refine spD (fun _ => ?_) (fun _ => ?_) | refine spF (fun _ => ?_) (fun _ => ?_) | (apply gT; (exact rfl)) | (apply off; (exact rfl); (exact rfl)) | (apply condT; (exact rfl)) | (apply condF; (exact rfl)) | ((first | (apply stp0; (exact rfl); (exact rfl)) | (apply stpN0; (exact rfl)) | apply gT | apply condT | ((first | apply bodyQ_d0 | apply bodyQ_d1 | apply bodyQ_d2 | apply bodyQ_d3 | apply bodyQ_d4); (exact .inr rfl); (rw [Try.results9]))); (first | (focus (simp only [go_sem, ↓reduceIte, simprocAttr, t0, t1] <;> rfl)) | exact rfl); (first | (fail_if_success (show okD _ _ _ _ _ _ _ _ _)) | (first | exact okT | exact okN | exact okE rfl)); (first | (fail_if_success (show Bel _ _)) | (focus first | exact .val _ | (simp [oneOf, Bel_iff_tup, Bel_iff_agg, Bel_iff_rsl, Bel_iff_fn, Bel_iff_rptr, Bel_val]; done)))) | refine thenQ_n ?_ | refine thenQ_r ?_ | refine thenQ_e ?_ | refine blockQ_n ?_ | refine blockQ_r ?_ | refine blockQ_e ?_ | (apply blockQ_o; (exact rfl)) | refine Awp.seq ?_ | refine Awp.skip ?_ | refine Awp.block ?_ | refine reg (fun s => false) ?_ | (apply drwE mixed (fun s => false); (kernel_rfl)) | refine fin ?_ | refine Awp.ret ?_ | refine Awp.exit ?_ | ((first | (apply off; (exact rfl)) | apply condF); (first | (focus (simp only [go_sem, ↓reduceIte, simprocAttr, t0, t1] <;> rfl)) | exact rfl)))
    all_goals first | contradiction | skip
    refine cal rfl rfl rfl ?_ (show ACallV Try.prog (.fn (.func 45) []) [.rsl (prs l) ex, iv room] K _ from hB K) ?_
    · (first | (focus (simp only [go_sem, ↓reduceIte, simprocAttr, t0, t1]; first | done | rfl)) | rfl)
    rintro v1 K2 ⟨a, rfl, hO⟩
    repeat' ((fail_if_success (apply stopR (id := 4))); (fail_if_success (apply stopS (id := 4))); first | refine spD (fun _ => ?_) (fun _ => ?_) | refine spF (fun _ => ?_) (fun _ => ?_) | (apply gT; (exact rfl)) | (apply off; (exact rfl); (exact rfl)) | (apply condT; (exact rfl)) | (apply condF; (exact rfl)) | ((first | (apply stp0; (exact rfl); (exact rfl)) | (apply stpN0; (exact rfl)) | apply gT | apply condT | ((first | apply bodyQ_d0 | apply bodyQ_d1 | apply bodyQ_d2 | apply bodyQ_d3 | apply bodyQ_d4); (exact .inr rfl); (rw [Try.results9]))); (first | (focus (simp only [go_sem, ↓reduceIte, simprocAttr] <;> rfl)) | exact rfl); (first | (fail_if_success (show okD _ _ _ _ _ _ _ _ _)) | (first | exact okT | exact okN | exact okE rfl)); (first | (fail_if_success (show Bel _ _)) | (focus first | exact .val _ | (simp [oneOf, Bel_iff_tup, Bel_iff_agg, Bel_iff_rsl, Bel_iff_fn, Bel_iff_rptr, Bel_val]; done)))) | refine thenQ_n ?_ | refine thenQ_r ?_ | refine thenQ_e ?_ | refine blockQ_n ?_ | refine blockQ_r ?_ | refine blockQ_e ?_ | (apply blockQ_o; (exact rfl)) | refine Awp.seq ?_ | refine Awp.skip ?_ | refine Awp.block ?_ | refine reg (fun s => false) ?_ | (apply drwE mixed (fun s => false); (kernel_rfl)) | refine fin ?_ | refine Awp.ret ?_ | refine Awp.exit ?_ | ((first | (apply off; (exact rfl)) | apply condF); (first | (focus (simp only [go_sem, ↓reduceIte, simprocAttr] <;> rfl)) | exact rfl)))
    all_goals first | contradiction | skip
    refine Awp.withT (fun T' => T' 0 = .rsl (prs l) ex ∧ T' 1 = iv room ∧ T' 5 = a ∧ T' 6 = iv w ∧ T' 7 = iv e) ⟨by (first | (focus (simp only [go_sem, ↓reduceIte, simprocAttr, t0]; first | done | rfl)) | rfl), by (first | (focus (simp only [go_sem, ↓reduceIte, simprocAttr, t1]; first | done | rfl)) | rfl), by (first | (focus (simp only [go_sem, ↓reduceIte, simprocAttr]; first | done | rfl)) | rfl), by (first | (focus (simp only [go_sem, ↓reduceIte, simprocAttr]; first | done | rfl)) | rfl), by (first | (focus (simp only [go_sem, ↓reduceIte, simprocAttr]; first | done | rfl)) | rfl)⟩ ?_
    clear t0 t1 T
    rintro T ⟨t0, t1, t5, t6, t7⟩
    refine Awp.frzOwn 5 hO t5 ?_
    refine Awp.withT (fun T' => T' 0 = .rsl (prs l) ex ∧ T' 1 = iv room ∧ T' 5 = .rsl (ints A) false ∧ T' 6 = iv w ∧ T' 7 = iv e) ⟨by (first | (focus (simp only [go_sem, ↓reduceIte, simprocAttr, t0]; first | done | rfl)) | rfl), by (first | (focus (simp only [go_sem, ↓reduceIte, simprocAttr, t1]; first | done | rfl)) | rfl), by (first | (focus (simp only [go_sem, ↓reduceIte, simprocAttr]; first | done | rfl)) | rfl), by (first | (focus (simp only [go_sem, ↓reduceIte, simprocAttr, t6]; first | done | rfl)) | rfl), by (first | (focus (simp only [go_sem, ↓reduceIte, simprocAttr, t7]; first | done | rfl)) | rfl)⟩ ?_
    clear t0 t1 t5 t6 t7 T
    rintro T ⟨t0, t1, t5, t6, t7⟩
    generalize Go.Proofs.Ytlhchnnfgppneaa.Ab.ownK K2 a = K3
    refine Awp.seq ?_
    refine Awp.mono (Q := fun ex T' K' => ex = .normal ∧ (T' 5 = .rsl (ints A) false ∧ T' 6 = iv w ∧ T' 7 = iv e ∧ T' 9 = iv w ∧ T' 10 = iv e) ∧ ((T' 8 = nilS ∧ A = []) ∨ T' 8 = .rsl (ints A) false)) ?_ ?_
    · repeat' (first | refine spD (fun _ => ?_) (fun _ => ?_) | refine spF (fun _ => ?_) (fun _ => ?_) | (apply gT; (exact rfl)) | (apply off; (exact rfl); (exact rfl)) | (apply condT; (exact rfl)) | (apply condF; (exact rfl)) | ((first | (apply stp0; (exact rfl); (exact rfl)) | (apply stpN0; (exact rfl)) | apply gT | apply condT | ((first | apply bodyQ_d0 | apply bodyQ_d1 | apply bodyQ_d2 | apply bodyQ_d3 | apply bodyQ_d4); (exact .inr rfl); (rw [Try.results9]))); (first | (focus (simp only [go_sem, ↓reduceIte, simprocAttr, t0, t1] <;> rfl)) | exact rfl); (first | (fail_if_success (show okD _ _ _ _ _ _ _ _ _)) | (first | exact okT | exact okN | exact okE rfl)); (first | (fail_if_success (show Bel _ _)) | (focus first | exact .val _ | (simp [oneOf, Bel_iff_tup, Bel_iff_agg, Bel_iff_rsl, Bel_iff_fn, Bel_iff_rptr, Bel_val]; done)))) | refine thenQ_n ?_ | refine thenQ_r ?_ | refine thenQ_e ?_ | refine blockQ_n ?_ | refine blockQ_r ?_ | refine blockQ_e ?_ | (apply blockQ_o; (exact rfl)) | refine Awp.seq ?_ | refine Awp.skip ?_ | refine Awp.block ?_ | refine reg (fun s => false) ?_ | (apply drwE mixed (fun s => false); (kernel_rfl)) | refine fin ?_ | refine Awp.ret ?_ | refine Awp.exit ?_ | ((first | (apply off; (exact rfl)) | apply condF); (first | (focus (simp only [go_sem, ↓reduceIte, simprocAttr, t0, t1] <;> rfl)) | exact rfl)))
      all_goals first | contradiction | skip
      refine cal rfl rfl rfl ?_ (show ACallV Try.prog (.fn (.func 46) []) [.rsl (prs l) ex, iv room] K3 _ from hR K3) ?_
      · (first | (focus (simp only [go_sem, ↓reduceIte, simprocAttr, t0, t1]; first | done | rfl)) | rfl)
      rintro v1 K4 ⟨b, rfl, hb⟩
      repeat' (first | refine spD (fun _ => ?_) (fun _ => ?_) | refine spF (fun _ => ?_) (fun _ => ?_) | (apply gT; (exact rfl)) | (apply off; (exact rfl); (exact rfl)) | (apply condT; (exact rfl)) | (apply condF; (exact rfl)) | ((first | (apply stp0; (exact rfl); (exact rfl)) | (apply stpN0; (exact rfl)) | apply gT | apply condT | ((first | apply bodyQ_d0 | apply bodyQ_d1 | apply bodyQ_d2 | apply bodyQ_d3 | apply bodyQ_d4); (exact .inr rfl); (rw [Try.results9]))); (first | (focus (simp only [go_sem, ↓reduceIte, simprocAttr] <;> rfl)) | exact rfl); (first | (fail_if_success (show okD _ _ _ _ _ _ _ _ _)) | (first | exact okT | exact okN | exact okE rfl)); (first | (fail_if_success (show Bel _ _)) | (focus first | exact .val _ | (simp [oneOf, Bel_iff_tup, Bel_iff_agg, Bel_iff_rsl, Bel_iff_fn, Bel_iff_rptr, Bel_val]; done)))) | refine thenQ_n ?_ | refine thenQ_r ?_ | refine thenQ_e ?_ | refine blockQ_n ?_ | refine blockQ_r ?_ | refine blockQ_e ?_ | (apply blockQ_o; (exact rfl)) | refine Awp.seq ?_ | refine Awp.skip ?_ | refine Awp.block ?_ | refine reg (fun s => false) ?_ | (apply drwE mixed (fun s => false); (kernel_rfl)) | refine fin ?_ | refine Awp.ret ?_ | refine Awp.exit ?_ | ((first | (apply off; (exact rfl)) | apply condF); (first | (focus (simp only [go_sem, ↓reduceIte, simprocAttr] <;> rfl)) | exact rfl)))
      all_goals first | contradiction | skip
      refine ⟨rfl, ⟨by (first | (focus (simp only [go_sem, ↓reduceIte, simprocAttr, t5]; first | done | rfl)) | rfl), by (first | (focus (simp only [go_sem, ↓reduceIte, simprocAttr, t6]; first | done | rfl)) | rfl), by (first | (focus (simp only [go_sem, ↓reduceIte, simprocAttr, t7]; first | done | rfl)) | rfl), by (first | (focus (simp only [go_sem, ↓reduceIte, simprocAttr]; first | done | rfl)) | rfl), by (first | (focus (simp only [go_sem, ↓reduceIte, simprocAttr]; first | done | rfl)) | rfl)⟩, ?_⟩
      rcases hb with ⟨rfl, hb⟩ | rfl
      · exact .inl ⟨by (first | (focus (simp only [go_sem, ↓reduceIte, simprocAttr]; first | done | rfl)) | rfl), hb⟩
      · exact .inr (by (first | (focus (simp only [go_sem, ↓reduceIte, simprocAttr]; first | done | rfl)) | rfl))
    clear t0 t1 t5 t6 t7 T
    rintro ex T K4 ⟨rfl, ⟨t5, t6, t7, t9, t10⟩, t8⟩
    refine thenQ_n ?_
    rcases t8 with ⟨t8, rfl⟩ | t8
    · refine Awp.frzOwn (lo := 0) (t := 3) 8 (.nil) t8 ?_
      refine tail9 (A := []) (w := w) (e := e) ?_ ?_ ?_ ?_ ?_ ?_ (by simp) hQ
      · (first | (focus (simp only [go_sem, ↓reduceIte, simprocAttr, t5]; first | done | rfl)) | rfl)
      · rfl
      · (first | (focus (simp only [go_sem, ↓reduceIte, simprocAttr, t6]; first | done | rfl)) | rfl)
      · (first | (focus (simp only [go_sem, ↓reduceIte, simprocAttr, t9]; first | done | rfl)) | rfl)
      · (first | (focus (simp only [go_sem, ↓reduceIte, simprocAttr, t7]; first | done | rfl)) | rfl)
      · (first | (focus (simp only [go_sem, ↓reduceIte, simprocAttr, t10]; first | done | rfl)) | rfl)
    · exact tail9 t5 t8 t6 t9 t7 t10 hA hQ
  rcases hl with g1 | ⟨g1, g2, g3⟩
  · have g3 := h41 g1
    refine ACalls.of_body Try.func9 rfl (by kernel_rfl) (by rw [Try.ntmps9]; simp) ?_; rw [Try.ntmps9]
    repeat' ((fail_if_success (apply stopR (id := 3))); (fail_if_success (apply stopS (id := 3))); first | refine spD (fun _ => ?_) (fun _ => ?_) | refine spF (fun _ => ?_) (fun _ => ?_) | (apply gT; (exact rfl)) | (apply off; (exact rfl); (exact rfl)) | (apply condT; (exact rfl)) | (apply condF; (exact rfl)) | ((first | (apply stp0; (exact rfl); (exact rfl)) | (apply stpN0; (exact rfl)) | apply gT | apply condT | ((first | apply bodyQ_d0 | apply bodyQ_d1 | apply bodyQ_d2 | apply bodyQ_d3 | apply bodyQ_d4); (exact .inr rfl); (rw [Try.results9]))); (first | (focus (simp only [go_sem, ↓reduceIte, simprocAttr, hpl, g1, g3] <;> rfl)) | exact rfl); (first | (fail_if_success (show okD _ _ _ _ _ _ _ _ _)) | (first | exact okT | exact okN | exact okE rfl)); (first | (fail_if_success (show Bel _ _)) | (focus first | exact .val _ | (simp [oneOf, Bel_iff_tup, Bel_iff_agg, Bel_iff_rsl, Bel_iff_fn, Bel_iff_rptr, Bel_val]; done)))) | refine thenQ_n ?_ | refine thenQ_r ?_ | refine thenQ_e ?_ | refine blockQ_n ?_ | refine blockQ_r ?_ | refine blockQ_e ?_ | (apply blockQ_o; (exact rfl)) | refine Awp.seq ?_ | refine Awp.skip ?_ | refine Awp.block ?_ | refine reg (fun s => false) ?_ | (apply drwE mixed (fun s => false); (kernel_rfl)) | refine fin ?_ | refine Awp.ret ?_ | refine Awp.exit ?_ | ((first | (apply off; (exact rfl)) | apply condF); (first | (focus (simp only [go_sem, ↓reduceIte, simprocAttr, hpl, g1, g3] <;> rfl)) | exact rfl)))
    all_goals first | contradiction | skip
    refine fin9 ?_ ?_ (fun T' K' h4 => bodyQ_eq (.inr rfl) (by rw [Try.results9]; simp only [go_sem, ↓reduceIte, simprocAttr, h4]; rfl) rfl)
    · (first | (focus (simp only [go_sem, ↓reduceIte, simprocAttr]; first | done | rfl)) | rfl)
    · (first | (focus (simp only [go_sem, ↓reduceIte, simprocAttr]; first | done | rfl)) | rfl)
  · refine ACalls.of_body Try.func9 rfl (by kernel_rfl) (by rw [Try.ntmps9]; simp) ?_; rw [Try.ntmps9]
    repeat' ((fail_if_success (apply stopR (id := 3))); (fail_if_success (apply stopS (id := 3))); first | refine spD (fun _ => ?_) (fun _ => ?_) | refine spF (fun _ => ?_) (fun _ => ?_) | (apply gT; (exact rfl)) | (apply off; (exact rfl); (exact rfl)) | (apply condT; (exact rfl)) | (apply condF; (exact rfl)) | ((first | (apply stp0; (exact rfl); (exact rfl)) | (apply stpN0; (exact rfl)) | apply gT | apply condT | ((first | apply bodyQ_d0 | apply bodyQ_d1 | apply bodyQ_d2 | apply bodyQ_d3 | apply bodyQ_d4); (exact .inr rfl); (rw [Try.results9]))); (first | (focus (simp only [go_sem, ↓reduceIte, simprocAttr, hpl, g1, g2, g3] <;> rfl)) | exact rfl); (first | (fail_if_success (show okD _ _ _ _ _ _ _ _ _)) | (first | exact okT | exact okN | exact okE rfl)); (first | (fail_if_success (show Bel _ _)) | (focus first | exact .val _ | (simp [oneOf, Bel_iff_tup, Bel_iff_agg, Bel_iff_rsl, Bel_iff_fn, Bel_iff_rptr, Bel_val]; done)))) | refine thenQ_n ?_ | refine thenQ_r ?_ | refine thenQ_e ?_ | refine blockQ_n ?_ | refine blockQ_r ?_ | refine blockQ_e ?_ | (apply blockQ_o; (exact rfl)) | refine Awp.seq ?_ | refine Awp.skip ?_ | refine Awp.block ?_ | refine reg (fun s => false) ?_ | (apply drwE mixed (fun s => false); (kernel_rfl)) | refine fin ?_ | refine Awp.ret ?_ | refine Awp.exit ?_ | ((first | (apply off; (exact rfl)) | apply condF); (first | (focus (simp only [go_sem, ↓reduceIte, simprocAttr, hpl, g1, g2, g3] <;> rfl)) | exact rfl)))
    all_goals first | contradiction | skip
    refine fin9 ?_ ?_ (fun T' K' h4 => bodyQ_eq (.inr rfl) (by rw [Try.results9]; simp only [go_sem, ↓reduceIte, simprocAttr, h4]; rfl) rfl)
    · (first | (focus (simp only [go_sem, ↓reduceIte, simprocAttr]; first | done | rfl)) | rfl)
    · (first | (focus (simp only [go_sem, ↓reduceIte, simprocAttr]; first | done | rfl)) | rfl)

set_option maxRecDepth 8000 in
set_option maxHeartbeats 8000000 in
theorem BufferChooses_ok (H : Hp) (l : List Pr) (ex : Bool) (room : Int) : ACalls Try.prog 9 [.rsl (prs l) ex, iv room] H fun v _ => v = bv true := by
  have hpl := prs_len l
  by_cases hm : 24 < l.length
  · have g1 : (l.length : Int) > 11 := by omega
    have g2 : ¬ (l.length : Int) ≤ 24 := by omega
    by_cases h40 : (l.length : Int) > 40
    · refine ACalls.of_body Try.func9 rfl (by kernel_rfl) (by rw [Try.ntmps9]; simp) ?_; rw [Try.ntmps9]
      repeat' (first | refine spD (fun _ => ?_) (fun _ => ?_) | refine spF (fun _ => ?_) (fun _ => ?_) | (apply gT; (exact rfl)) | (apply off; (exact rfl); (exact rfl)) | (apply condT; (exact rfl)) | (apply condF; (exact rfl)) | ((first | (apply stp0; (exact rfl); (exact rfl)) | (apply stpN0; (exact rfl)) | apply gT | apply condT | ((first | apply bodyQ_d0 | apply bodyQ_d1 | apply bodyQ_d2 | apply bodyQ_d3 | apply bodyQ_d4); (exact .inr rfl); (rw [Try.results9]))); (first | (focus (simp only [go_sem, ↓reduceIte, simprocAttr, hpl, g1, g2, h40] <;> rfl)) | exact rfl); (first | (fail_if_success (show okD _ _ _ _ _ _ _ _ _)) | (first | exact okT | exact okN | exact okE rfl)); (first | (fail_if_success (show Bel _ _)) | (focus first | exact .val _ | (simp [oneOf, Bel_iff_tup, Bel_iff_agg, Bel_iff_rsl, Bel_iff_fn, Bel_iff_rptr, Bel_val]; done)))) | (apply calTo0; (exact rfl); (iterate 2 (simp only [go_sem, ↓reduceIte, simprocAttr, hpl, g1, g2, h40]; rfl)); (first | exact fine_ok _); (first | exact okT | exact okN | exact okE rfl)) | refine thenQ_n ?_ | refine thenQ_r ?_ | refine thenQ_e ?_ | refine blockQ_n ?_ | refine blockQ_r ?_ | refine blockQ_e ?_ | (apply blockQ_o; (exact rfl)) | refine Awp.seq ?_ | refine Awp.skip ?_ | refine Awp.block ?_ | refine reg (fun s => false) ?_ | (apply drwE mixed (fun s => false); (kernel_rfl)) | refine fin ?_ | refine Awp.ret ?_ | refine Awp.exit ?_ | ((first | (apply off; (exact rfl)) | apply condF); (first | (focus (simp only [go_sem, ↓reduceIte, simprocAttr, hpl, g1, g2, h40] <;> rfl)) | exact rfl)))
      all_goals first | contradiction | skip
      all_goals exact bodyQ_eq (.inr rfl) (by rw [Try.results9]; simp only [go_sem, ↓reduceIte, simprocAttr]; rfl) rfl
    · exact mid9 H l ex room (A := []) (w := 0) (e := 6) (.inr ⟨g1, g2, h40⟩) (by simp) (fun H => (show ACalls _ _ _ _ _ from bestMany H l ex room hm).mono fun v K h => ⟨nilS, h.1, .nil⟩)
        (fun H => (show ACalls _ _ _ _ _ from rbestMany H l ex room hm).mono fun v K h => ⟨nilS, h.1, .inl ⟨rfl, rfl⟩⟩)
  · by_cases h11 : (l.length : Int) > 11
    · have g2 : (l.length : Int) ≤ 24 := by omega
      have g3 : ¬ (l.length : Int) > 40 := by omega
      refine ACalls.of_body Try.func9 rfl (by kernel_rfl) (by rw [Try.ntmps9]; simp) ?_; rw [Try.ntmps9]
      repeat' (first | refine spD (fun _ => ?_) (fun _ => ?_) | refine spF (fun _ => ?_) (fun _ => ?_) | (apply gT; (exact rfl)) | (apply off; (exact rfl); (exact rfl)) | (apply condT; (exact rfl)) | (apply condF; (exact rfl)) | ((first | (apply stp0; (exact rfl); (exact rfl)) | (apply stpN0; (exact rfl)) | apply gT | apply condT | ((first | apply bodyQ_d0 | apply bodyQ_d1 | apply bodyQ_d2 | apply bodyQ_d3 | apply bodyQ_d4); (exact .inr rfl); (rw [Try.results9]))); (first | (focus (simp only [go_sem, ↓reduceIte, simprocAttr, hpl, h11, g2, g3] <;> rfl)) | exact rfl); (first | (fail_if_success (show okD _ _ _ _ _ _ _ _ _)) | (first | exact okT | exact okN | exact okE rfl)); (first | (fail_if_success (show Bel _ _)) | (focus first | exact .val _ | (simp [oneOf, Bel_iff_tup, Bel_iff_agg, Bel_iff_rsl, Bel_iff_fn, Bel_iff_rptr, Bel_val]; done)))) | (apply calTo0; (exact rfl); (iterate 2 (simp only [go_sem, ↓reduceIte, simprocAttr, hpl, h11, g2, g3]; rfl)); (first | exact fine_ok _); (first | exact okT | exact okN | exact okE rfl)) | refine thenQ_n ?_ | refine thenQ_r ?_ | refine thenQ_e ?_ | refine blockQ_n ?_ | refine blockQ_r ?_ | refine blockQ_e ?_ | (apply blockQ_o; (exact rfl)) | refine Awp.seq ?_ | refine Awp.skip ?_ | refine Awp.block ?_ | refine reg (fun s => false) ?_ | (apply drwE mixed (fun s => false); (kernel_rfl)) | refine fin ?_ | refine Awp.ret ?_ | refine Awp.exit ?_ | ((first | (apply off; (exact rfl)) | apply condF); (first | (focus (simp only [go_sem, ↓reduceIte, simprocAttr, hpl, h11, g2, g3] <;> rfl)) | exact rfl)))
      all_goals first | contradiction | skip
      all_goals exact bodyQ_eq (.inr rfl) (by rw [Try.results9]; simp only [go_sem, ↓reduceIte, simprocAttr]; rfl) rfl
    · have hl : l.length ≤ 11 := by omega
      have h24 : l.length ≤ 24 := by omega
      have hR := fun H => rbest_ok H l ex room hl
      cases hb : l.any badP with
      | true =>
        exact mid9 H l ex room (A := []) (w := 0) (e := 2) (.inl h11) (by simp) (fun H => (show ACalls _ _ _ _ _ from bestBad H l ex room h24 hb).mono fun v K h => ⟨nilS, h.1, .nil⟩)
          (fun H => (hR H).mono fun v K h => by
            rcases h with ⟨_, rfl⟩ | ⟨h, _⟩ | ⟨h, _⟩
            · exact ⟨nilS, rfl, .inl ⟨rfl, rfl⟩⟩
            · rw [hb] at h; exact absurd h (by decide)
            · rw [hb] at h; exact absurd h (by decide))
      | false =>
        by_cases hr : room < 0 ∨ room > 16777216
        · exact mid9 H l ex room (A := []) (w := 0) (e := 3) (.inl h11) (by simp) (fun H => (show ACalls _ _ _ _ _ from bestRoom H l ex room h24 hb hr).mono fun v K h => ⟨nilS, h.1, .nil⟩)
            (fun H => (hR H).mono fun v K h => by
              rcases h with ⟨h, _⟩ | ⟨_, _, rfl⟩ | ⟨_, h, _⟩
              · rw [hb] at h; exact absurd h (by decide)
              · exact ⟨nilS, rfl, .inl ⟨rfl, rfl⟩⟩
              · omega)
        · exact mid9 H l ex room (A := idxL (topL l room).bits l.length) (w := (topL l room).worth) (e := 0) (.inl h11) (Nat.le_trans (idxL_len _ _) h24) (fun H => (Best_ok H l ex room h24 hb (by omega)).mono fun v K ⟨a, h1, h2, _⟩ => ⟨a, h1, h2⟩)
            (fun H => (hR H).mono fun v K h => by
              rcases h with ⟨h, _⟩ | ⟨_, h, _⟩ | ⟨_, h, rfl⟩
              · rw [hb] at h; exact absurd h (by decide)
              · omega
              · exact ⟨_, rfl, .inr rfl⟩)

end Go.Proofs.Ytlhchnnfgppneaa.Ab
