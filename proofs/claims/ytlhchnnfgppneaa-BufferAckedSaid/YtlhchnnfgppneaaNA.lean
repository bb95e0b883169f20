/- Buffers: Put. -/
import Derived.Test.YtlhchnnfgppneaaN9
namespace Go.Proofs.Ytlhchnnfgppneaa.Ab
open Go Go.RowKit Go.Proofs
set_option linter.unusedSimpArgs false
set_option linter.unusedVariables false
attribute [local irreducible] Awp wpO thenQ blockQ bodyQ ACalls stepA

section
variable {H K : Hp} {F : Ft} {w w' : Rw} {S : Bf} {o : Nat} {a : AV} {ds : List Int}
theorem Cut.grow (h : Cut H K F w w' S o a ds) {K2 : Hp} (hG : Grow K K2) : Cut H K2 F w w' S o a ds :=
  ⟨h.rep.grow hG, h.good, h.row, h.lo, h.own.of hG, h.fr.trans hG.fr, h.ne, h.len, h.ge⟩
theorem Cut.press (h : Cut H K F w w' S o a ds) {K2 : Hp} {w2 : Rw} {j : Nat} (hR : Rep K2 F w2 (S.press j)) (hF : Fr F K K2) (ho : w2.ord = w'.ord) (hj : nextJ S = some j) : Cut H K2 F w w2 (S.press j) o a ds := by
  obtain ⟨_, x, hx, hl⟩ := nextJ_some hj
  have hlen : (S.press j).L.length = S.L.length := by rw [press_eq hx]; exact List.length_set ..
  obtain ⟨g1, g2, g3, g4⟩ := h.ge
  refine ⟨hR, h.good.pressG hx hl, by rw [ho, hlen]; exact h.row, h.lo, h.own.get fun i ob hi hb => ?_, h.fr.trans hF, h.ne, by rw [hlen]; exact h.len, h.ge⟩
  rw [hF.old i (List.getElem?_eq_some_iff.1 hb).1 (by omega) (by omega) (by omega) (by omega)]; exact hb
theorem Cut.done (h : Cut H K F w w' S o a ds) : Rep (ownK K a) F w' S ∧ FrO F w H (ownK K a) := by
  obtain ⟨g1, g2, g3, g4⟩ := h.ge
  have hR := h.rep
  refine ⟨⟨⟨(ownK_low h.own g1).trans hR.raw.hb, (ownK_low h.own g2).trans hR.raw.hr, (ownK_low h.own g3).trans hR.raw.hs, (ownK_low h.own g4).trans hR.raw.ht, hR.raw.rs, hR.raw.rt, hR.raw.st⟩, hR.cap, hR.used, hR.time, ?_, hR.mr, hR.ms, hR.mt⟩, h.fr.ownA h.own⟩
  refine hR.ord.get fun o2 n v e hb => ?_
  rw [h.row] at e
  cases e
  rw [ownK_get fun o' n e => h.ne n (by rw [e, h.own.zero _ _ _ e])]; exact hb
end

theorem shr_press {k : Nat} {S : Bf} {ds : List Int} {j : Nat} (ho : S.over) (h : nextJ S = some j) : shr (k + 1) S ds = shr k (S.press j) ds := by
  conv => lhs; unfold shr
  rw [if_pos ho, h]
theorem shr_drop {k : Nat} {S : Bf} {ds : List Int} (ho : S.over) (h : nextJ S = none) : shr (k + 1) S ds = shr k S.drop (ds ++ [S.lastId]) := by
  conv => lhs; unfold shr
  rw [if_pos ho, h]

set_option maxRecDepth 8000 in
set_option maxHeartbeats 8000000 in
theorem put15 {H K : Hp} {F : Ft} {w w1 : Rw} {S1 : Bf} {o : Nat} {T : Env} {Post : AV → Hp → Prop} (h : Cut H K F w w1 S1 o nilS []) (t2 : T 2 = .rptr [.mptr F.b 0 0] 0)
    (hq : ∀ (H1 : Hp) w2, Rep H1 F w2 (shr S1.mu S1 []).1 → FrO F w H H1 → (∀ j m, w2.ord = .msl j 0 m → H.length ≤ j) → Post (.tup [.rsl (ints (shr S1.mu S1 []).2) false, iv 0]) H1) :
    Awp Try.prog 131 none (tl (tl (tl (tl (tl (tl (tl (tl (tl (Try.f24.body.getD .skip)))))))))) T K (bodyQ Try.prog Try.f24 H Post) := by
  obtain ⟨B24, hB24⟩ : ∃ B, B = bodyQ Try.prog Try.f24 H Post := ⟨_, rfl⟩
  rw [← hB24]
  unfold Try.f24
  simp only [tl, Option.getD_some]
  repeat' (first | refine spD (fun _ => ?_) (fun _ => ?_) | refine spF (fun _ => ?_) (fun _ => ?_) | (apply gT; (exact rfl)) | (apply off; (exact rfl); (exact rfl)) | (apply condT; (exact rfl)) | (apply condF; (exact rfl)) | ((first | (apply stp0; (exact rfl); (exact rfl)) | (apply stpN0; (exact rfl)) | apply gT | apply condT | ((first | apply bodyQ_d0 | apply bodyQ_d1 | apply bodyQ_d2 | apply bodyQ_d3 | apply bodyQ_d4); (exact .inr rfl); (rw [Try.results24]))); (first | (focus (simp only [go_sem, ↓reduceIte, simprocAttr, t2] <;> rfl)) | exact rfl); (first | (fail_if_success (show okD _ _ _ _ _ _ _ _ _)) | (first | exact okT | exact okN | exact okE rfl)); (first | (fail_if_success (show Bel _ _)) | (focus first | exact .val _ | (simp [oneOf, Bel_iff_tup, Bel_iff_agg, Bel_iff_rsl, Bel_iff_fn, Bel_iff_rptr, Bel_val]; done)))) | refine thenQ_n ?_ | refine thenQ_r ?_ | refine thenQ_e ?_ | refine blockQ_n ?_ | refine blockQ_r ?_ | refine blockQ_e ?_ | (apply blockQ_o; (exact rfl)) | refine Awp.seq ?_ | refine Awp.skip ?_ | refine Awp.block ?_ | refine reg (fun s => s == 7) ?_ | (apply drwE mixed (fun s => s == 7); (kernel_rfl)) | refine fin ?_ | refine Awp.ret ?_ | refine Awp.exit ?_ | ((first | (apply off; (exact rfl)) | apply condF); (first | (focus (simp only [go_sem, ↓reduceIte, simprocAttr, t2] <;> rfl)) | exact rfl)))
  all_goals first | contradiction | (exfalso; omega) | skip
  refine Awp.loop (ι := Nat) (fun k T' K' => ∃ S' ds w' a, T' 2 = .rptr [.mptr F.b 0 0] 0 ∧ T' 10 = a ∧ Cut H K' F w w' S' o a ds ∧ S'.mu ≤ k ∧ shr k S' ds = shr S1.mu S1 []) (fun k => k) S1.mu ?_ ?_
  · refine ⟨S1, [], w1, nilS, ?_, ?_, h, Nat.le_refl _, rfl⟩
    · (first | (focus (simp only [go_sem, ↓reduceIte, simprocAttr, t2]; first | done | rfl)) | rfl)
    · (first | (focus (simp only [go_sem, ↓reduceIte, simprocAttr]; first | done | rfl)) | rfl)
  clear t2 T
  rintro k T K' ⟨S', ds, w', a, t2, t10, hC, hmu, hsh⟩
  have hb := hC.rep.raw.hb
  have hrow := hC.row
  have hcap := hC.rep.cap
  have hused := hC.rep.used
  simp only [Rw.cs, hrow] at hb
  by_cases ho : S'.over
  · cases k with
    | zero =>
      exfalso
      obtain ⟨x, hx⟩ := over_ne hC.good ho
      have := mu_drop hx
      omega
    | succ k =>
      obtain ⟨x, hx⟩ := over_ne hC.good ho
      refine Awp.seq (Awp.mono (Q := fun e T' J => e = .normal ∧ T' 2 = .rptr [.mptr F.b 0 0] 0 ∧ T' 10 = a ∧ J = K') ?_ ?_)
      · by_cases hu : w'.used > w'.cap
        · repeat' (first | refine spD (fun _ => ?_) (fun _ => ?_) | refine spF (fun _ => ?_) (fun _ => ?_) | (apply gT; (exact rfl)) | (apply off; (exact rfl); (exact rfl)) | (apply condT; (exact rfl)) | (apply condF; (exact rfl)) | ((first | (apply stp0; (exact rfl); (exact rfl)) | (apply stpN0; (exact rfl)) | apply gT | apply condT | ((first | apply bodyQ_d0 | apply bodyQ_d1 | apply bodyQ_d2 | apply bodyQ_d3 | apply bodyQ_d4); (exact .inr rfl); (rw [Try.results24]))); (first | (focus (simp only [go_sem, ↓reduceIte, simprocAttr, t2, t10, hb, hu] <;> rfl)) | exact rfl); (first | (fail_if_success (show okD _ _ _ _ _ _ _ _ _)) | (first | exact okT | exact okN | exact okE rfl)); (first | (fail_if_success (show Bel _ _)) | (focus first | exact .val _ | (simp [oneOf, Bel_iff_tup, Bel_iff_agg, Bel_iff_rsl, Bel_iff_fn, Bel_iff_rptr, Bel_val]; done)))) | refine thenQ_n ?_ | refine thenQ_r ?_ | refine thenQ_e ?_ | refine blockQ_n ?_ | refine blockQ_r ?_ | refine blockQ_e ?_ | (apply blockQ_o; (exact rfl)) | refine Awp.seq ?_ | refine Awp.skip ?_ | refine Awp.block ?_ | refine reg (fun s => s == 7) ?_ | (apply drwE mixed (fun s => s == 7); (kernel_rfl)) | refine fin ?_ | refine Awp.ret ?_ | refine Awp.exit ?_ | ((first | (apply off; (exact rfl)) | apply condF); (first | (focus (simp only [go_sem, ↓reduceIte, simprocAttr, t2, t10, hb, hu] <;> rfl)) | exact rfl)))
          all_goals first | contradiction | (exfalso; omega) | skip
          refine ⟨rfl, ?_, ?_, rfl⟩
          · (first | (focus (simp only [go_sem, ↓reduceIte, simprocAttr, t2]; first | done | rfl)) | rfl)
          · (first | (focus (simp only [go_sem, ↓reduceIte, simprocAttr, t10]; first | done | rfl)) | rfl)
        · have hn : (S'.L.length : Int) > 256 := by
            unfold Bf.over at ho
            rw [hused, hcap] at hu
            rcases ho with ho | ho
            · exact absurd ho hu
            · omega
          repeat' (first | refine spD (fun _ => ?_) (fun _ => ?_) | refine spF (fun _ => ?_) (fun _ => ?_) | (apply gT; (exact rfl)) | (apply off; (exact rfl); (exact rfl)) | (apply condT; (exact rfl)) | (apply condF; (exact rfl)) | ((first | (apply stp0; (exact rfl); (exact rfl)) | (apply stpN0; (exact rfl)) | apply gT | apply condT | ((first | apply bodyQ_d0 | apply bodyQ_d1 | apply bodyQ_d2 | apply bodyQ_d3 | apply bodyQ_d4); (exact .inr rfl); (rw [Try.results24]))); (first | (focus (simp only [go_sem, ↓reduceIte, simprocAttr, t2, t10, hb, hu, hn] <;> rfl)) | exact rfl); (first | (fail_if_success (show okD _ _ _ _ _ _ _ _ _)) | (first | exact okT | exact okN | exact okE rfl)); (first | (fail_if_success (show Bel _ _)) | (focus first | exact .val _ | (simp [oneOf, Bel_iff_tup, Bel_iff_agg, Bel_iff_rsl, Bel_iff_fn, Bel_iff_rptr, Bel_val]; done)))) | refine thenQ_n ?_ | refine thenQ_r ?_ | refine thenQ_e ?_ | refine blockQ_n ?_ | refine blockQ_r ?_ | refine blockQ_e ?_ | (apply blockQ_o; (exact rfl)) | refine Awp.seq ?_ | refine Awp.skip ?_ | refine Awp.block ?_ | refine reg (fun s => s == 7) ?_ | (apply drwE mixed (fun s => s == 7); (kernel_rfl)) | refine fin ?_ | refine Awp.ret ?_ | refine Awp.exit ?_ | ((first | (apply off; (exact rfl)) | apply condF); (first | (focus (simp only [go_sem, ↓reduceIte, simprocAttr, t2, t10, hb, hu, hn] <;> rfl)) | exact rfl)))
          all_goals first | contradiction | (exfalso; omega) | skip
          refine ⟨rfl, ?_, ?_, rfl⟩
          · (first | (focus (simp only [go_sem, ↓reduceIte, simprocAttr, t2]; first | done | rfl)) | rfl)
          · (first | (focus (simp only [go_sem, ↓reduceIte, simprocAttr, t10]; first | done | rfl)) | rfl)
      · clear t2 t10 T
        rintro e T J ⟨rfl, t2, t10, hJ⟩
        rw [hJ]
        clear hJ J
        simp only [thenQ]
        have hfn : ∀ (K2 : Hp) (w2 : Rw) (S2 : Bf) (a2 : AV) (d2 : List Int) (T2 : Env), T2 2 = .rptr [.mptr F.b 0 0] 0 → T2 10 = a2 → Cut H K2 F w w2 S2 o a2 d2 → S2.mu ≤ k → shr k S2 d2 = shr S1.mu S1 [] →
            ∃ j, (∃ S' ds w' a, T2 2 = .rptr [.mptr F.b 0 0] 0 ∧ T2 10 = a ∧ Cut H K2 F w w' S' o a ds ∧ S'.mu ≤ j ∧ shr j S' ds = shr S1.mu S1 []) ∧ j < k + 1 :=
          fun K2 w2 S2 a2 d2 T2 h1 h2 h3 h4 h5 => ⟨k, ⟨S2, d2, w2, a2, h1, h2, h3, h4, h5⟩, Nat.lt_succ_self k⟩
        by_cases hlen : S'.L.length ≤ 256
        · have hn : (S'.L.length : Int) ≤ 256 := by omega
          have hcp := compress_ok hC.rep hC.good
          repeat' (first | refine spD (fun _ => ?_) (fun _ => ?_) | refine spF (fun _ => ?_) (fun _ => ?_) | (apply gT; (exact rfl)) | (apply off; (exact rfl); (exact rfl)) | (apply condT; (exact rfl)) | (apply condF; (exact rfl)) | ((first | (apply stp0; (exact rfl); (exact rfl)) | (apply stpN0; (exact rfl)) | apply gT | apply condT | ((first | apply bodyQ_d0 | apply bodyQ_d1 | apply bodyQ_d2 | apply bodyQ_d3 | apply bodyQ_d4); (exact .inr rfl); (rw [Try.results24]))); (first | (focus (simp only [go_sem, ↓reduceIte, simprocAttr, t2, t10, hb, hn] <;> rfl)) | exact rfl); (first | (fail_if_success (show okD _ _ _ _ _ _ _ _ _)) | (first | exact okT | exact okN | exact okE rfl)); (first | (fail_if_success (show Bel _ _)) | (focus first | exact .val _ | (simp [oneOf, Bel_iff_tup, Bel_iff_agg, Bel_iff_rsl, Bel_iff_fn, Bel_iff_rptr, Bel_val]; done)))) | refine thenQ_n ?_ | refine thenQ_r ?_ | refine thenQ_e ?_ | refine blockQ_n ?_ | refine blockQ_r ?_ | refine blockQ_e ?_ | (apply blockQ_o; (exact rfl)) | refine Awp.seq ?_ | refine Awp.skip ?_ | refine Awp.block ?_ | refine reg (fun s => s == 7) ?_ | (apply drwE mixed (fun s => s == 7); (kernel_rfl)) | refine fin ?_ | refine Awp.ret ?_ | refine Awp.exit ?_ | ((first | (apply off; (exact rfl)) | apply condF); (first | (focus (simp only [go_sem, ↓reduceIte, simprocAttr, t2, t10, hb, hn] <;> rfl)) | exact rfl)))
          all_goals first | contradiction | (exfalso; omega) | skip
          refine cal rfl rfl rfl ?_ (show ACallV Try.prog (.fn (.func 60) []) [.mptr F.b 0 0] K' _ from hcp) ?_
          · rfl
          rintro v1 H1 (⟨hnl, rfl, hG1⟩ | ⟨j, w2, hj, rfl, hR2, hF2, ho2⟩)
          · have hnj : nextJ S' = none := by unfold nextJ; rw [if_pos hlen]; exact hnl
            rw [shr_drop ho hnj] at hsh
            repeat' ((fail_if_success (apply stopR (id := 18))); (fail_if_success (apply stopS (id := 18))); first | refine spD (fun _ => ?_) (fun _ => ?_) | refine spF (fun _ => ?_) (fun _ => ?_) | (apply gT; (exact rfl)) | (apply off; (exact rfl); (exact rfl)) | (apply condT; (exact rfl)) | (apply condF; (exact rfl)) | ((first | (apply stp0; (exact rfl); (exact rfl)) | (apply stpN0; (exact rfl)) | apply gT | apply condT | ((first | apply bodyQ_d0 | apply bodyQ_d1 | apply bodyQ_d2 | apply bodyQ_d3 | apply bodyQ_d4); (exact .inr rfl); (rw [Try.results24]))); (first | (focus (simp only [go_sem, ↓reduceIte, simprocAttr, t2, t10] <;> rfl)) | exact rfl); (first | (fail_if_success (show okD _ _ _ _ _ _ _ _ _)) | (first | exact okT | exact okN | exact okE rfl)); (first | (fail_if_success (show Bel _ _)) | (focus first | exact .val _ | (simp [oneOf, Bel_iff_tup, Bel_iff_agg, Bel_iff_rsl, Bel_iff_fn, Bel_iff_rptr, Bel_val]; done)))) | refine thenQ_n ?_ | refine thenQ_r ?_ | refine thenQ_e ?_ | refine blockQ_n ?_ | refine blockQ_r ?_ | refine blockQ_e ?_ | (apply blockQ_o; (exact rfl)) | refine Awp.seq ?_ | refine Awp.skip ?_ | refine Awp.block ?_ | refine reg (fun s => s == 7) ?_ | (apply drwE mixed (fun s => s == 7); (kernel_rfl)) | refine fin ?_ | refine Awp.ret ?_ | refine Awp.exit ?_ | ((first | (apply off; (exact rfl)) | apply condF); (first | (focus (simp only [go_sem, ↓reduceIte, simprocAttr, t2, t10] <;> rfl)) | exact rfl)))
            all_goals first | contradiction | (exfalso; omega) | skip
            have hmd := mu_drop hx
            refine put18 (hC.grow hG1) hx (by (first | (focus (simp only [go_sem, ↓reduceIte, simprocAttr, t2]; first | done | rfl)) | rfl)) (by (first | (focus (simp only [go_sem, ↓reduceIte, simprocAttr, t10]; first | done | rfl)) | rfl)) fun T2 K2 w2 a2 h1 h2 h3 => ?_
            repeat' (first | refine spD (fun _ => ?_) (fun _ => ?_) | refine spF (fun _ => ?_) (fun _ => ?_) | (apply gT; (exact rfl)) | (apply off; (exact rfl); (exact rfl)) | (apply condT; (exact rfl)) | (apply condF; (exact rfl)) | ((first | (apply stp0; (exact rfl); (exact rfl)) | (apply stpN0; (exact rfl)) | apply gT | apply condT | ((first | apply bodyQ_d0 | apply bodyQ_d1 | apply bodyQ_d2 | apply bodyQ_d3 | apply bodyQ_d4); (exact .inr rfl); (rw [Try.results24]))); (first | (focus (simp only [go_sem, ↓reduceIte, simprocAttr, h1, h2] <;> rfl)) | exact rfl); (first | (fail_if_success (show okD _ _ _ _ _ _ _ _ _)) | (first | exact okT | exact okN | exact okE rfl)); (first | (fail_if_success (show Bel _ _)) | (focus first | exact .val _ | (simp [oneOf, Bel_iff_tup, Bel_iff_agg, Bel_iff_rsl, Bel_iff_fn, Bel_iff_rptr, Bel_val]; done)))) | refine thenQ_n ?_ | refine thenQ_r ?_ | refine thenQ_e ?_ | refine blockQ_n ?_ | refine blockQ_r ?_ | refine blockQ_e ?_ | (apply blockQ_o; (exact rfl)) | refine Awp.seq ?_ | refine Awp.skip ?_ | refine Awp.block ?_ | refine reg (fun s => s == 7) ?_ | (apply drwE mixed (fun s => s == 7); (kernel_rfl)) | refine fin ?_ | refine Awp.ret ?_ | refine Awp.exit ?_ | ((first | (apply off; (exact rfl)) | apply condF); (first | (focus (simp only [go_sem, ↓reduceIte, simprocAttr, h1, h2] <;> rfl)) | exact rfl)))
            exact hfn K2 w2 _ a2 _ _ h1 h2 h3 (by omega) hsh
          · have hnj : nextJ S' = some j := by unfold nextJ; rw [if_pos hlen]; exact hj
            rw [shr_press ho hnj] at hsh
            repeat' (first | refine spD (fun _ => ?_) (fun _ => ?_) | refine spF (fun _ => ?_) (fun _ => ?_) | (apply gT; (exact rfl)) | (apply off; (exact rfl); (exact rfl)) | (apply condT; (exact rfl)) | (apply condF; (exact rfl)) | ((first | (apply stp0; (exact rfl); (exact rfl)) | (apply stpN0; (exact rfl)) | apply gT | apply condT | ((first | apply bodyQ_d0 | apply bodyQ_d1 | apply bodyQ_d2 | apply bodyQ_d3 | apply bodyQ_d4); (exact .inr rfl); (rw [Try.results24]))); (first | (focus (simp only [go_sem, ↓reduceIte, simprocAttr, t2, t10] <;> rfl)) | exact rfl); (first | (fail_if_success (show okD _ _ _ _ _ _ _ _ _)) | (first | exact okT | exact okN | exact okE rfl)); (first | (fail_if_success (show Bel _ _)) | (focus first | exact .val _ | (simp [oneOf, Bel_iff_tup, Bel_iff_agg, Bel_iff_rsl, Bel_iff_fn, Bel_iff_rptr, Bel_val]; done)))) | refine thenQ_n ?_ | refine thenQ_r ?_ | refine thenQ_e ?_ | refine blockQ_n ?_ | refine blockQ_r ?_ | refine blockQ_e ?_ | (apply blockQ_o; (exact rfl)) | refine Awp.seq ?_ | refine Awp.skip ?_ | refine Awp.block ?_ | refine reg (fun s => s == 7) ?_ | (apply drwE mixed (fun s => s == 7); (kernel_rfl)) | refine fin ?_ | refine Awp.ret ?_ | refine Awp.exit ?_ | ((first | (apply off; (exact rfl)) | apply condF); (first | (focus (simp only [go_sem, ↓reduceIte, simprocAttr, t2, t10] <;> rfl)) | exact rfl)))
            all_goals first | contradiction | (exfalso; omega) | skip
            obtain ⟨_, y, hy, hly⟩ := nextJ_some hnj
            have hmp := mu_press hy hly
            exact hfn H1 w2 _ a _ _ (by (first | (focus (simp only [go_sem, ↓reduceIte, simprocAttr, t2]; first | done | rfl)) | rfl)) (by (first | (focus (simp only [go_sem, ↓reduceIte, simprocAttr, t10]; first | done | rfl)) | rfl)) (hC.press hR2 hF2 ho2 hnj) (by omega) hsh
        · have hn : ¬ (S'.L.length : Int) ≤ 256 := by omega
          have hnj : nextJ S' = none := if_neg hlen
          rw [shr_drop ho hnj] at hsh
          repeat' ((fail_if_success (apply stopR (id := 18))); (fail_if_success (apply stopS (id := 18))); first | refine spD (fun _ => ?_) (fun _ => ?_) | refine spF (fun _ => ?_) (fun _ => ?_) | (apply gT; (exact rfl)) | (apply off; (exact rfl); (exact rfl)) | (apply condT; (exact rfl)) | (apply condF; (exact rfl)) | ((first | (apply stp0; (exact rfl); (exact rfl)) | (apply stpN0; (exact rfl)) | apply gT | apply condT | ((first | apply bodyQ_d0 | apply bodyQ_d1 | apply bodyQ_d2 | apply bodyQ_d3 | apply bodyQ_d4); (exact .inr rfl); (rw [Try.results24]))); (first | (focus (simp only [go_sem, ↓reduceIte, simprocAttr, t2, t10, hb, hn] <;> rfl)) | exact rfl); (first | (fail_if_success (show okD _ _ _ _ _ _ _ _ _)) | (first | exact okT | exact okN | exact okE rfl)); (first | (fail_if_success (show Bel _ _)) | (focus first | exact .val _ | (simp [oneOf, Bel_iff_tup, Bel_iff_agg, Bel_iff_rsl, Bel_iff_fn, Bel_iff_rptr, Bel_val]; done)))) | refine thenQ_n ?_ | refine thenQ_r ?_ | refine thenQ_e ?_ | refine blockQ_n ?_ | refine blockQ_r ?_ | refine blockQ_e ?_ | (apply blockQ_o; (exact rfl)) | refine Awp.seq ?_ | refine Awp.skip ?_ | refine Awp.block ?_ | refine reg (fun s => s == 7) ?_ | (apply drwE mixed (fun s => s == 7); (kernel_rfl)) | refine fin ?_ | refine Awp.ret ?_ | refine Awp.exit ?_ | ((first | (apply off; (exact rfl)) | apply condF); (first | (focus (simp only [go_sem, ↓reduceIte, simprocAttr, t2, t10, hb, hn] <;> rfl)) | exact rfl)))
          all_goals first | contradiction | (exfalso; omega) | skip
          have hmd := mu_drop hx
          refine put18 hC hx (by (first | (focus (simp only [go_sem, ↓reduceIte, simprocAttr, t2]; first | done | rfl)) | rfl)) (by (first | (focus (simp only [go_sem, ↓reduceIte, simprocAttr, t10]; first | done | rfl)) | rfl)) fun T2 K2 w2 a2 h1 h2 h3 => ?_
          repeat' (first | refine spD (fun _ => ?_) (fun _ => ?_) | refine spF (fun _ => ?_) (fun _ => ?_) | (apply gT; (exact rfl)) | (apply off; (exact rfl); (exact rfl)) | (apply condT; (exact rfl)) | (apply condF; (exact rfl)) | ((first | (apply stp0; (exact rfl); (exact rfl)) | (apply stpN0; (exact rfl)) | apply gT | apply condT | ((first | apply bodyQ_d0 | apply bodyQ_d1 | apply bodyQ_d2 | apply bodyQ_d3 | apply bodyQ_d4); (exact .inr rfl); (rw [Try.results24]))); (first | (focus (simp only [go_sem, ↓reduceIte, simprocAttr, h1, h2] <;> rfl)) | exact rfl); (first | (fail_if_success (show okD _ _ _ _ _ _ _ _ _)) | (first | exact okT | exact okN | exact okE rfl)); (first | (fail_if_success (show Bel _ _)) | (focus first | exact .val _ | (simp [oneOf, Bel_iff_tup, Bel_iff_agg, Bel_iff_rsl, Bel_iff_fn, Bel_iff_rptr, Bel_val]; done)))) | refine thenQ_n ?_ | refine thenQ_r ?_ | refine thenQ_e ?_ | refine blockQ_n ?_ | refine blockQ_r ?_ | refine blockQ_e ?_ | (apply blockQ_o; (exact rfl)) | refine Awp.seq ?_ | refine Awp.skip ?_ | refine Awp.block ?_ | refine reg (fun s => s == 7) ?_ | (apply drwE mixed (fun s => s == 7); (kernel_rfl)) | refine fin ?_ | refine Awp.ret ?_ | refine Awp.exit ?_ | ((first | (apply off; (exact rfl)) | apply condF); (first | (focus (simp only [go_sem, ↓reduceIte, simprocAttr, h1, h2] <;> rfl)) | exact rfl)))
          exact hfn K2 w2 _ a2 _ _ h1 h2 h3 (by omega) hsh
  · have hsk : shr k S' ds = (S', ds) := by
      cases k with
      | zero => rfl
      | succ k => unfold shr; rw [if_neg ho]
    rw [hsk] at hsh
    unfold Bf.over at ho
    have hu : ¬ w'.used > w'.cap := by rw [hused, hcap]; exact fun k => ho (.inl k)
    have hn : ¬ (S'.L.length : Int) > 256 := fun k => ho (.inr (by omega))
    repeat' ((fail_if_success (apply stopR (id := 23))); (fail_if_success (apply stopS (id := 23))); first | refine spD (fun _ => ?_) (fun _ => ?_) | refine spF (fun _ => ?_) (fun _ => ?_) | (apply gT; (exact rfl)) | (apply off; (exact rfl); (exact rfl)) | (apply condT; (exact rfl)) | (apply condF; (exact rfl)) | ((first | (apply stp0; (exact rfl); (exact rfl)) | (apply stpN0; (exact rfl)) | apply gT | apply condT | ((first | apply bodyQ_d0 | apply bodyQ_d1 | apply bodyQ_d2 | apply bodyQ_d3 | apply bodyQ_d4); (exact .inr rfl); (rw [Try.results24]))); (first | (focus (simp only [go_sem, ↓reduceIte, simprocAttr, t2, t10, hb, hu, hn] <;> rfl)) | exact rfl); (first | (fail_if_success (show okD _ _ _ _ _ _ _ _ _)) | (first | exact okT | exact okN | exact okE rfl)); (first | (fail_if_success (show Bel _ _)) | (focus first | exact .val _ | (simp [oneOf, Bel_iff_tup, Bel_iff_agg, Bel_iff_rsl, Bel_iff_fn, Bel_iff_rptr, Bel_val]; done)))) | refine thenQ_n ?_ | refine thenQ_r ?_ | refine thenQ_e ?_ | refine blockQ_n ?_ | refine blockQ_r ?_ | refine blockQ_e ?_ | (apply blockQ_o; (exact rfl)) | refine Awp.seq ?_ | refine Awp.skip ?_ | refine Awp.block ?_ | refine reg (fun s => s == 7) ?_ | (apply drwE mixed (fun s => s == 7); (kernel_rfl)) | refine fin ?_ | refine Awp.ret ?_ | refine Awp.exit ?_ | ((first | (apply off; (exact rfl)) | apply condF); (first | (focus (simp only [go_sem, ↓reduceIte, simprocAttr, t2, t10, hb, hu, hn] <;> rfl)) | exact rfl)))
    all_goals first | contradiction | (exfalso; omega) | skip
    obtain ⟨hR2, hF2⟩ := hC.done
    refine Awp.frzOwn 10 hC.own (by (first | (focus (simp only [go_sem, ↓reduceIte, simprocAttr, t10]; first | done | rfl)) | rfl)) ?_
    rw [hB24]
    repeat' (first | refine spD (fun _ => ?_) (fun _ => ?_) | refine spF (fun _ => ?_) (fun _ => ?_) | (apply gT; (exact rfl)) | (apply off; (exact rfl); (exact rfl)) | (apply condT; (exact rfl)) | (apply condF; (exact rfl)) | ((first | (apply stp0; (exact rfl); (exact rfl)) | (apply stpN0; (exact rfl)) | apply gT | apply condT); (first | (focus (simp only [go_sem, ↓reduceIte, simprocAttr, t2] <;> rfl)) | exact rfl); (first | (fail_if_success (show okD _ _ _ _ _ _ _ _ _)) | (first | exact okT | exact okN | exact okE rfl))) | refine thenQ_n ?_ | refine thenQ_r ?_ | refine thenQ_e ?_ | refine blockQ_n ?_ | refine blockQ_r ?_ | refine blockQ_e ?_ | (apply blockQ_o; (exact rfl)) | refine Awp.seq ?_ | refine Awp.skip ?_ | refine Awp.block ?_ | refine reg (fun s => s == 7) ?_ | (apply drwE mixed (fun s => s == 7); (kernel_rfl)) | refine fin ?_ | refine Awp.ret ?_ | refine Awp.exit ?_ | ((first | (apply off; (exact rfl)) | apply condF); (first | (focus (simp only [go_sem, ↓reduceIte, simprocAttr, t2] <;> rfl)) | exact rfl)))
    all_goals first | contradiction | (exfalso; omega) | skip
    refine bodyQ_mk (vs := [.rsl (ints ds) false, iv 0]) (.inr rfl) (by rw [Try.results24]; simp only [go_sem, ↓reduceIte, simprocAttr]) (Vs.refl _ _ _) ?_
    have := hq (ownK K' a) w' (by rw [← hsh]; exact hR2) hF2 (fun j m e => by rw [hrow] at e; cases e; exact hC.lo)
    rw [← hsh] at this
    exact this

end Go.Proofs.Ytlhchnnfgppneaa.Ab
