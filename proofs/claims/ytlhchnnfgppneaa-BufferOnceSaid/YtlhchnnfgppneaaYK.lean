/- Buffers: Put. Buffers: Put, whole. Buffers: New, Held, and what looks at what is held. -/
import Derived.Test.YtlhchnnfgppneaaYJ
namespace Go.Proofs.Ytlhchnnfgppneaa.Ab
open Go Go.RowKit Go.Proofs
set_option linter.unusedSimpArgs false
set_option linter.unusedVariables false
attribute [local irreducible] Awp wpO thenQ blockQ bodyQ ACalls stepA

section
variable {H K : Hp} {F : Ft} {w w' : Rw} {S : Bf} {o : Nat} {a : AV} {ds : List Int}
theorem Cut.grow (h : Cut H K F w w' S o a ds) {K2 : Hp} (hG : Grow K K2) : Cut H K2 F w w' S o a ds :=
  ⟨h.rep.grow hG, h.good, h.row, h.lo, h.own.of hG, h.fr.trans hG.fr, h.ne, h.len, h.ge⟩
theorem Cut.press (h : Cut H K F w w' S o a ds) {K2 : Hp} {w2 : Rw} {j : Nat} (hR : Rep K2 F w2 (S.press j)) (hF : Fr F K K2) (ho : w2.ord = w'.ord) (hj : nextJ S = some j) : Cut H K2 F w w2 (S.press j) o a ds := by
  obtain ⟨_, x, hx, hl⟩ := nextJ_some hj
  have hlen : (S.press j).L.length = S.L.length := by rw [press_eq hx]; exact List.length_set ..
  obtain ⟨g1, g2, g3, g4⟩ := h.ge
  refine ⟨hR, h.good.pressG hx hl, by rw [ho, hlen]; exact h.row, h.lo, h.own.get fun i ob hi hb => ?_, h.fr.trans hF, h.ne, by rw [hlen]; exact h.len, h.ge⟩
  rw [hF.old i (List.getElem?_eq_some_iff.1 hb).1 (by omega) (by omega) (by omega) (by omega)]; exact hb
theorem Cut.done (h : Cut H K F w w' S o a ds) : Rep (ownK K a) F w' S ∧ FrO F w H (ownK K a) := by
  obtain ⟨g1, g2, g3, g4⟩ := h.ge
  have hR := h.rep
  refine ⟨⟨⟨(ownK_low h.own g1).trans hR.raw.hb, (ownK_low h.own g2).trans hR.raw.hr, (ownK_low h.own g3).trans hR.raw.hs, (ownK_low h.own g4).trans hR.raw.ht, hR.raw.rs, hR.raw.rt, hR.raw.st⟩, hR.cap, hR.used, hR.time, ?_, hR.mr, hR.ms, hR.mt⟩, h.fr.ownA h.own⟩
  refine hR.ord.get fun o2 n v e hb => ?_
  rw [h.row] at e
  cases e
  rw [ownK_get fun o' n e => h.ne n (by rw [e, h.own.zero _ _ _ e])]; exact hb
end

theorem shr_press {k : Nat} {S : Bf} {ds : List Int} {j : Nat} (ho : S.over) (h : nextJ S = some j) : shr (k + 1) S ds = shr k (S.press j) ds := by
  conv => lhs; unfold shr
  rw [if_pos ho, h]
theorem shr_drop {k : Nat} {S : Bf} {ds : List Int} (ho : S.over) (h : nextJ S = none) : shr (k + 1) S ds = shr k S.drop (ds ++ [S.lastId]) := by
  conv => lhs; unfold shr
  rw [if_pos ho, h]

set_option maxRecDepth 8000 in
set_option maxHeartbeats 8000000 in
theorem put15 {H K : Hp} {F : Ft} {w w1 : Rw} {S1 : Bf} {o : Nat} {T : Env} {Post : AV → Hp → Prop} (h : Cut H K F w w1 S1 o nilS []) (t2 : T 2 = .rptr [.mptr F.b 0 0] 0)
    (hq : ∀ (H1 : Hp) w2, Rep H1 F w2 (shr S1.mu S1 []).1 → FrO F w H H1 → (∀ j m, w2.ord = .msl j 0 m → H.length ≤ j) → Post (.tup [.rsl (ints (shr S1.mu S1 []).2) false, iv 0]) H1) :
    Awp Try.prog 131 none (tl (tl (tl (tl (tl (tl (tl (tl (tl (Try.f24.body.getD .skip)))))))))) T K (bodyQ Try.prog Try.f24 H Post) := by
  obtain ⟨B24, hB24⟩ : ∃ B, B = bodyQ Try.prog Try.f24 H Post := ⟨_, rfl⟩
  rw [← hB24]
  unfold Try.f24
  simp only [tl, Option.getD_some]
  repeat' (first | refine spD (fun _ => ?_) (fun _ => ?_) | refine spF (fun _ => ?_) (fun _ => ?_) | (apply gT; (exact rfl)) | (apply off; (exact rfl); (exact rfl)) | (apply condT; (exact rfl)) | (apply condF; (exact rfl)) | ((first | (apply stp0; (exact rfl); (exact rfl)) | (apply stpN0; (exact rfl)) | apply gT | apply condT | ((first | apply bodyQ_d0 | apply bodyQ_d1 | apply bodyQ_d2 | apply bodyQ_d3 | apply bodyQ_d4); (exact .inr rfl); (rw [Try.results24]))); (first | (focus (simp only [go_sem, ↓reduceIte, simprocAttr, t2] <;> rfl)) | exact rfl); (first | (fail_if_success (show okD _ _ _ _ _ _ _ _ _)) | (first | exact okT | exact okN | exact okE rfl)); (first | (fail_if_success (show Bel _ _)) | (focus first | exact .val _ | (simp [oneOf, Bel_iff_tup, Bel_iff_agg, Bel_iff_rsl, Bel_iff_fn, Bel_iff_rptr, Bel_val]; done)))) | refine thenQ_n ?_ | refine thenQ_r ?_ | refine thenQ_e ?_ | refine blockQ_n ?_ | refine blockQ_r ?_ | refine blockQ_e ?_ | (apply blockQ_o; (exact rfl)) | refine Awp.seq ?_ | refine Awp.skip ?_ | refine Awp.block ?_ | refine reg (fun s => s == 7) ?_ | (apply drwE mixed (fun s => s == 7); (kernel_rfl)) | refine fin ?_ | refine Awp.ret ?_ | refine Awp.exit ?_ | ((first | (apply off; (exact rfl)) | apply condF); (first | (focus (simp only [go_sem, ↓reduceIte, simprocAttr, t2] <;> rfl)) | exact rfl)))
  all_goals first | contradiction | (exfalso; omega) | skip
  refine Awp.loop (ι := Nat) (fun k T' K' => ∃ S' ds w' a, T' 2 = .rptr [.mptr F.b 0 0] 0 ∧ T' 10 = a ∧ Cut H K' F w w' S' o a ds ∧ S'.mu ≤ k ∧ shr k S' ds = shr S1.mu S1 []) (fun k => k) S1.mu ?_ ?_
  · refine ⟨S1, [], w1, nilS, ?_, ?_, h, Nat.le_refl _, rfl⟩
    · (first | (focus (simp only [go_sem, ↓reduceIte, simprocAttr, t2]; first | done | rfl)) | rfl)
    · (first | (focus (simp only [go_sem, ↓reduceIte, simprocAttr]; first | done | rfl)) | rfl)
  clear t2 T
  rintro k T K' ⟨S', ds, w', a, t2, t10, hC, hmu, hsh⟩
  have hb := hC.rep.raw.hb
  have hrow := hC.row
  have hcap := hC.rep.cap
  have hused := hC.rep.used
  simp only [Rw.cs, hrow] at hb
  by_cases ho : S'.over
  · cases k with
    | zero =>
      exfalso
      obtain ⟨x, hx⟩ := over_ne hC.good ho
      have := mu_drop hx
      omega
    | succ k =>
      obtain ⟨x, hx⟩ := over_ne hC.good ho
      refine Awp.seq (Awp.mono (Q := fun e T' J => e = .normal ∧ T' 2 = .rptr [.mptr F.b 0 0] 0 ∧ T' 10 = a ∧ J = K') ?_ ?_)
      · by_cases hu : w'.used > w'.cap
        · repeat' (first | refine spD (fun _ => ?_) (fun _ => ?_) | refine spF (fun _ => ?_) (fun _ => ?_) | (apply gT; (exact rfl)) | (apply off; (exact rfl); (exact rfl)) | (apply condT; (exact rfl)) | (apply condF; (exact rfl)) | ((first | (apply stp0; (exact rfl); (exact rfl)) | (apply stpN0; (exact rfl)) | apply gT | apply condT | ((first | apply bodyQ_d0 | apply bodyQ_d1 | apply bodyQ_d2 | apply bodyQ_d3 | apply bodyQ_d4); (exact .inr rfl); (rw [Try.results24]))); (first | (focus (simp only [go_sem, ↓reduceIte, simprocAttr, t2, t10, hb, hu] <;> rfl)) | exact rfl); (first | (fail_if_success (show okD _ _ _ _ _ _ _ _ _)) | (first | exact okT | exact okN | exact okE rfl)); (first | (fail_if_success (show Bel _ _)) | (focus first | exact .val _ | (simp [oneOf, Bel_iff_tup, Bel_iff_agg, Bel_iff_rsl, Bel_iff_fn, Bel_iff_rptr, Bel_val]; done)))) | refine thenQ_n ?_ | refine thenQ_r ?_ | refine thenQ_e ?_ | refine blockQ_n ?_ | refine blockQ_r ?_ | refine blockQ_e ?_ | (apply blockQ_o; (exact rfl)) | refine Awp.seq ?_ | refine Awp.skip ?_ | refine Awp.block ?_ | refine reg (fun s => s == 7) ?_ | (apply drwE mixed (fun s => s == 7); (kernel_rfl)) | refine fin ?_ | refine Awp.ret ?_ | refine Awp.exit ?_ | ((first | (apply off; (exact rfl)) | apply condF); (first | (focus (simp only [go_sem, ↓reduceIte, simprocAttr, t2, t10, hb, hu] <;> rfl)) | exact rfl)))
          all_goals first | contradiction | (exfalso; omega) | skip
          refine ⟨rfl, ?_, ?_, rfl⟩
          · (first | (focus (simp only [go_sem, ↓reduceIte, simprocAttr, t2]; first | done | rfl)) | rfl)
          · (first | (focus (simp only [go_sem, ↓reduceIte, simprocAttr, t10]; first | done | rfl)) | rfl)
        · have hn : (S'.L.length : Int) > 256 := by
            unfold Bf.over at ho
            rw [hused, hcap] at hu
            rcases ho with ho | ho
            · exact absurd ho hu
            · omega
          repeat' (first | refine spD (fun _ => ?_) (fun _ => ?_) | refine spF (fun _ => ?_) (fun _ => ?_) | (apply gT; (exact rfl)) | (apply off; (exact rfl); (exact rfl)) | (apply condT; (exact rfl)) | (apply condF; (exact rfl)) | ((first | (apply stp0; (exact rfl); (exact rfl)) | (apply stpN0; (exact rfl)) | apply gT | apply condT | ((first | apply bodyQ_d0 | apply bodyQ_d1 | apply bodyQ_d2 | apply bodyQ_d3 | apply bodyQ_d4); (exact .inr rfl); (rw [Try.results24]))); (first | (focus (simp only [go_sem, ↓reduceIte, simprocAttr, t2, t10, hb, hu, hn] <;> rfl)) | exact rfl); (first | (fail_if_success (show okD _ _ _ _ _ _ _ _ _)) | (first | exact okT | exact okN | exact okE rfl)); (first | (fail_if_success (show Bel _ _)) | (focus first | exact .val _ | (simp [oneOf, Bel_iff_tup, Bel_iff_agg, Bel_iff_rsl, Bel_iff_fn, Bel_iff_rptr, Bel_val]; done)))) | refine thenQ_n ?_ | refine thenQ_r ?_ | refine thenQ_e ?_ | refine blockQ_n ?_ | refine blockQ_r ?_ | refine blockQ_e ?_ | (apply blockQ_o; (exact rfl)) | refine Awp.seq ?_ | refine Awp.skip ?_ | refine Awp.block ?_ | refine reg (fun s => s == 7) ?_ | (apply drwE mixed (fun s => s == 7); (kernel_rfl)) | refine fin ?_ | refine Awp.ret ?_ | refine Awp.exit ?_ | ((first | (apply off; (exact rfl)) | apply condF); (first | (focus (simp only [go_sem, ↓reduceIte, simprocAttr, t2, t10, hb, hu, hn] <;> rfl)) | exact rfl)))
          all_goals first | contradiction | (exfalso; omega) | skip
          refine ⟨rfl, ?_, ?_, rfl⟩
          · (first | (focus (simp only [go_sem, ↓reduceIte, simprocAttr, t2]; first | done | rfl)) | rfl)
          · (first | (focus (simp only [go_sem, ↓reduceIte, simprocAttr, t10]; first | done | rfl)) | rfl)
      · clear t2 t10 T
        rintro e T J ⟨rfl, t2, t10, hJ⟩
        rw [hJ]
        clear hJ J
        simp only [thenQ]
        have hfn : ∀ (K2 : Hp) (w2 : Rw) (S2 : Bf) (a2 : AV) (d2 : List Int) (T2 : Env), T2 2 = .rptr [.mptr F.b 0 0] 0 → T2 10 = a2 → Cut H K2 F w w2 S2 o a2 d2 → S2.mu ≤ k → shr k S2 d2 = shr S1.mu S1 [] →
            ∃ j, (∃ S' ds w' a, T2 2 = .rptr [.mptr F.b 0 0] 0 ∧ T2 10 = a ∧ Cut H K2 F w w' S' o a ds ∧ S'.mu ≤ j ∧ shr j S' ds = shr S1.mu S1 []) ∧ j < k + 1 :=
          fun K2 w2 S2 a2 d2 T2 h1 h2 h3 h4 h5 => ⟨k, ⟨S2, d2, w2, a2, h1, h2, h3, h4, h5⟩, Nat.lt_succ_self k⟩
        by_cases hlen : S'.L.length ≤ 256
        · have hn : (S'.L.length : Int) ≤ 256 := by omega
          have hcp := compress_ok hC.rep hC.good
          repeat' (first | refine spD (fun _ => ?_) (fun _ => ?_) | refine spF (fun _ => ?_) (fun _ => ?_) | (apply gT; (exact rfl)) | (apply off; (exact rfl); (exact rfl)) | (apply condT; (exact rfl)) | (apply condF; (exact rfl)) | ((first | (apply stp0; (exact rfl); (exact rfl)) | (apply stpN0; (exact rfl)) | apply gT | apply condT | ((first | apply bodyQ_d0 | apply bodyQ_d1 | apply bodyQ_d2 | apply bodyQ_d3 | apply bodyQ_d4); (exact .inr rfl); (rw [Try.results24]))); (first | (focus (simp only [go_sem, ↓reduceIte, simprocAttr, t2, t10, hb, hn] <;> rfl)) | exact rfl); (first | (fail_if_success (show okD _ _ _ _ _ _ _ _ _)) | (first | exact okT | exact okN | exact okE rfl)); (first | (fail_if_success (show Bel _ _)) | (focus first | exact .val _ | (simp [oneOf, Bel_iff_tup, Bel_iff_agg, Bel_iff_rsl, Bel_iff_fn, Bel_iff_rptr, Bel_val]; done)))) | refine thenQ_n ?_ | refine thenQ_r ?_ | refine thenQ_e ?_ | refine blockQ_n ?_ | refine blockQ_r ?_ | refine blockQ_e ?_ | (apply blockQ_o; (exact rfl)) | refine Awp.seq ?_ | refine Awp.skip ?_ | refine Awp.block ?_ | refine reg (fun s => s == 7) ?_ | (apply drwE mixed (fun s => s == 7); (kernel_rfl)) | refine fin ?_ | refine Awp.ret ?_ | refine Awp.exit ?_ | ((first | (apply off; (exact rfl)) | apply condF); (first | (focus (simp only [go_sem, ↓reduceIte, simprocAttr, t2, t10, hb, hn] <;> rfl)) | exact rfl)))
          all_goals first | contradiction | (exfalso; omega) | skip
          refine cal rfl rfl rfl ?_ (show ACallV Try.prog (.fn (.func 60) []) [.mptr F.b 0 0] K' _ from hcp) ?_
          · rfl
          rintro v1 H1 (⟨hnl, rfl, hG1⟩ | ⟨j, w2, hj, rfl, hR2, hF2, ho2⟩)
          · have hnj : nextJ S' = none := by unfold nextJ; rw [if_pos hlen]; exact hnl
            rw [shr_drop ho hnj] at hsh
            repeat' ((fail_if_success (apply stopR (id := 18))); (fail_if_success (apply stopS (id := 18))); first | refine spD (fun _ => ?_) (fun _ => ?_) | refine spF (fun _ => ?_) (fun _ => ?_) | (apply gT; (exact rfl)) | (apply off; (exact rfl); (exact rfl)) | (apply condT; (exact rfl)) | (apply condF; (exact rfl)) | ((first | (apply stp0; (exact rfl); (exact rfl)) | (apply stpN0; (exact rfl)) | apply gT | apply condT | ((first | apply bodyQ_d0 | apply bodyQ_d1 | apply bodyQ_d2 | apply bodyQ_d3 | apply bodyQ_d4); (exact .inr rfl); (rw [Try.results24]))); (first | (focus (simp only [go_sem, ↓reduceIte, simprocAttr, t2, t10] <;> rfl)) | exact rfl); (first | (fail_if_success (show okD _ _ _ _ _ _ _ _ _)) | (first | exact okT | exact okN | exact okE rfl)); (first | (fail_if_success (show Bel _ _)) | (focus first | exact .val _ | (simp [oneOf, Bel_iff_tup, Bel_iff_agg, Bel_iff_rsl, Bel_iff_fn, Bel_iff_rptr, Bel_val]; done)))) | refine thenQ_n ?_ | refine thenQ_r ?_ | refine thenQ_e ?_ | refine blockQ_n ?_ | refine blockQ_r ?_ | refine blockQ_e ?_ | (apply blockQ_o; (exact rfl)) | refine Awp.seq ?_ | refine Awp.skip ?_ | refine Awp.block ?_ | refine reg (fun s => s == 7) ?_ | (apply drwE mixed (fun s => s == 7); (kernel_rfl)) | refine fin ?_ | refine Awp.ret ?_ | refine Awp.exit ?_ | ((first | (apply off; (exact rfl)) | apply condF); (first | (focus (simp only [go_sem, ↓reduceIte, simprocAttr, t2, t10] <;> rfl)) | exact rfl)))
            all_goals first | contradiction | (exfalso; omega) | skip
            have hmd := mu_drop hx
            refine put18 (hC.grow hG1) hx (by (first | (focus (simp only [go_sem, ↓reduceIte, simprocAttr, t2]; first | done | rfl)) | rfl)) (by (first | (focus (simp only [go_sem, ↓reduceIte, simprocAttr, t10]; first | done | rfl)) | rfl)) fun T2 K2 w2 a2 h1 h2 h3 => ?_
            repeat' (first | refine spD (fun _ => ?_) (fun _ => ?_) | refine spF (fun _ => ?_) (fun _ => ?_) | (apply gT; (exact rfl)) | (apply off; (exact rfl); (exact rfl)) | (apply condT; (exact rfl)) | (apply condF; (exact rfl)) | ((first | (apply stp0; (exact rfl); (exact rfl)) | (apply stpN0; (exact rfl)) | apply gT | apply condT | ((first | apply bodyQ_d0 | apply bodyQ_d1 | apply bodyQ_d2 | apply bodyQ_d3 | apply bodyQ_d4); (exact .inr rfl); (rw [Try.results24]))); (first | (focus (simp only [go_sem, ↓reduceIte, simprocAttr, h1, h2] <;> rfl)) | exact rfl); (first | (fail_if_success (show okD _ _ _ _ _ _ _ _ _)) | (first | exact okT | exact okN | exact okE rfl)); (first | (fail_if_success (show Bel _ _)) | (focus first | exact .val _ | (simp [oneOf, Bel_iff_tup, Bel_iff_agg, Bel_iff_rsl, Bel_iff_fn, Bel_iff_rptr, Bel_val]; done)))) | refine thenQ_n ?_ | refine thenQ_r ?_ | refine thenQ_e ?_ | refine blockQ_n ?_ | refine blockQ_r ?_ | refine blockQ_e ?_ | (apply blockQ_o; (exact rfl)) | refine Awp.seq ?_ | refine Awp.skip ?_ | refine Awp.block ?_ | refine reg (fun s => s == 7) ?_ | (apply drwE mixed (fun s => s == 7); (kernel_rfl)) | refine fin ?_ | refine Awp.ret ?_ | refine Awp.exit ?_ | ((first | (apply off; (exact rfl)) | apply condF); (first | (focus (simp only [go_sem, ↓reduceIte, simprocAttr, h1, h2] <;> rfl)) | exact rfl)))
            exact hfn K2 w2 _ a2 _ _ h1 h2 h3 (by omega) hsh
          · have hnj : nextJ S' = some j := by unfold nextJ; rw [if_pos hlen]; exact hj
            rw [shr_press ho hnj] at hsh
            repeat' (first | refine spD (fun _ => ?_) (fun _ => ?_) | refine spF (fun _ => ?_) (fun _ => ?_) | (apply gT; (exact rfl)) | (apply off; (exact rfl); (exact rfl)) | (apply condT; (exact rfl)) | (apply condF; (exact rfl)) | ((first | (apply stp0; (exact rfl); (exact rfl)) | (apply stpN0; (exact rfl)) | apply gT | apply condT | ((first | apply bodyQ_d0 | apply bodyQ_d1 | apply bodyQ_d2 | apply bodyQ_d3 | apply bodyQ_d4); (exact .inr rfl); (rw [Try.results24]))); (first | (focus (simp only [go_sem, ↓reduceIte, simprocAttr, t2, t10] <;> rfl)) | exact rfl); (first | (fail_if_success (show okD _ _ _ _ _ _ _ _ _)) | (first | exact okT | exact okN | exact okE rfl)); (first | (fail_if_success (show Bel _ _)) | (focus first | exact .val _ | (simp [oneOf, Bel_iff_tup, Bel_iff_agg, Bel_iff_rsl, Bel_iff_fn, Bel_iff_rptr, Bel_val]; done)))) | refine thenQ_n ?_ | refine thenQ_r ?_ | refine thenQ_e ?_ | refine blockQ_n ?_ | refine blockQ_r ?_ | refine blockQ_e ?_ | (apply blockQ_o; (exact rfl)) | refine Awp.seq ?_ | refine Awp.skip ?_ | refine Awp.block ?_ | refine reg (fun s => s == 7) ?_ | (apply drwE mixed (fun s => s == 7); (kernel_rfl)) | refine fin ?_ | refine Awp.ret ?_ | refine Awp.exit ?_ | ((first | (apply off; (exact rfl)) | apply condF); (first | (focus (simp only [go_sem, ↓reduceIte, simprocAttr, t2, t10] <;> rfl)) | exact rfl)))
            all_goals first | contradiction | (exfalso; omega) | skip
            obtain ⟨_, y, hy, hly⟩ := nextJ_some hnj
            have hmp := mu_press hy hly
            exact hfn H1 w2 _ a _ _ (by (first | (focus (simp only [go_sem, ↓reduceIte, simprocAttr, t2]; first | done | rfl)) | rfl)) (by (first | (focus (simp only [go_sem, ↓reduceIte, simprocAttr, t10]; first | done | rfl)) | rfl)) (hC.press hR2 hF2 ho2 hnj) (by omega) hsh
        · have hn : ¬ (S'.L.length : Int) ≤ 256 := by omega
          have hnj : nextJ S' = none := if_neg hlen
          rw [shr_drop ho hnj] at hsh
          repeat' ((fail_if_success (apply stopR (id := 18))); (fail_if_success (apply stopS (id := 18))); first | refine spD (fun _ => ?_) (fun _ => ?_) | refine spF (fun _ => ?_) (fun _ => ?_) | (apply gT; (exact rfl)) | (apply off; (exact rfl); (exact rfl)) | (apply condT; (exact rfl)) | (apply condF; (exact rfl)) | ((first | (apply stp0; (exact rfl); (exact rfl)) | (apply stpN0; (exact rfl)) | apply gT | apply condT | ((first | apply bodyQ_d0 | apply bodyQ_d1 | apply bodyQ_d2 | apply bodyQ_d3 | apply bodyQ_d4); (exact .inr rfl); (rw [Try.results24]))); (first | (focus (simp only [go_sem, ↓reduceIte, simprocAttr, t2, t10, hb, hn] <;> rfl)) | exact rfl); (first | (fail_if_success (show okD _ _ _ _ _ _ _ _ _)) | (first | exact okT | exact okN | exact okE rfl)); (first | (fail_if_success (show Bel _ _)) | (focus first | exact .val _ | (simp [oneOf, Bel_iff_tup, Bel_iff_agg, Bel_iff_rsl, Bel_iff_fn, Bel_iff_rptr, Bel_val]; done)))) | refine thenQ_n ?_ | refine thenQ_r ?_ | refine thenQ_e ?_ | refine blockQ_n ?_ | refine blockQ_r ?_ | refine blockQ_e ?_ | (apply blockQ_o; (exact rfl)) | refine Awp.seq ?_ | refine Awp.skip ?_ | refine Awp.block ?_ | refine reg (fun s => s == 7) ?_ | (apply drwE mixed (fun s => s == 7); (kernel_rfl)) | refine fin ?_ | refine Awp.ret ?_ | refine Awp.exit ?_ | ((first | (apply off; (exact rfl)) | apply condF); (first | (focus (simp only [go_sem, ↓reduceIte, simprocAttr, t2, t10, hb, hn] <;> rfl)) | exact rfl)))
          all_goals first | contradiction | (exfalso; omega) | skip
          have hmd := mu_drop hx
          refine put18 hC hx (by (first | (focus (simp only [go_sem, ↓reduceIte, simprocAttr, t2]; first | done | rfl)) | rfl)) (by (first | (focus (simp only [go_sem, ↓reduceIte, simprocAttr, t10]; first | done | rfl)) | rfl)) fun T2 K2 w2 a2 h1 h2 h3 => ?_
          repeat' (first | refine spD (fun _ => ?_) (fun _ => ?_) | refine spF (fun _ => ?_) (fun _ => ?_) | (apply gT; (exact rfl)) | (apply off; (exact rfl); (exact rfl)) | (apply condT; (exact rfl)) | (apply condF; (exact rfl)) | ((first | (apply stp0; (exact rfl); (exact rfl)) | (apply stpN0; (exact rfl)) | apply gT | apply condT | ((first | apply bodyQ_d0 | apply bodyQ_d1 | apply bodyQ_d2 | apply bodyQ_d3 | apply bodyQ_d4); (exact .inr rfl); (rw [Try.results24]))); (first | (focus (simp only [go_sem, ↓reduceIte, simprocAttr, h1, h2] <;> rfl)) | exact rfl); (first | (fail_if_success (show okD _ _ _ _ _ _ _ _ _)) | (first | exact okT | exact okN | exact okE rfl)); (first | (fail_if_success (show Bel _ _)) | (focus first | exact .val _ | (simp [oneOf, Bel_iff_tup, Bel_iff_agg, Bel_iff_rsl, Bel_iff_fn, Bel_iff_rptr, Bel_val]; done)))) | refine thenQ_n ?_ | refine thenQ_r ?_ | refine thenQ_e ?_ | refine blockQ_n ?_ | refine blockQ_r ?_ | refine blockQ_e ?_ | (apply blockQ_o; (exact rfl)) | refine Awp.seq ?_ | refine Awp.skip ?_ | refine Awp.block ?_ | refine reg (fun s => s == 7) ?_ | (apply drwE mixed (fun s => s == 7); (kernel_rfl)) | refine fin ?_ | refine Awp.ret ?_ | refine Awp.exit ?_ | ((first | (apply off; (exact rfl)) | apply condF); (first | (focus (simp only [go_sem, ↓reduceIte, simprocAttr, h1, h2] <;> rfl)) | exact rfl)))
          exact hfn K2 w2 _ a2 _ _ h1 h2 h3 (by omega) hsh
  · have hsk : shr k S' ds = (S', ds) := by
      cases k with
      | zero => rfl
      | succ k => unfold shr; rw [if_neg ho]
    rw [hsk] at hsh
    unfold Bf.over at ho
    have hu : ¬ w'.used > w'.cap := by rw [hused, hcap]; exact fun k => ho (.inl k)
    have hn : ¬ (S'.L.length : Int) > 256 := fun k => ho (.inr (by omega))
    repeat' ((fail_if_success (apply stopR (id := 23))); (fail_if_success (apply stopS (id := 23))); first | refine spD (fun _ => ?_) (fun _ => ?_) | refine spF (fun _ => ?_) (fun _ => ?_) | (apply gT; (exact rfl)) | (apply off; (exact rfl); (exact rfl)) | (apply condT; (exact rfl)) | (apply condF; (exact rfl)) | ((first | (apply stp0; (exact rfl); (exact rfl)) | (apply stpN0; (exact rfl)) | apply gT | apply condT | ((first | apply bodyQ_d0 | apply bodyQ_d1 | apply bodyQ_d2 | apply bodyQ_d3 | apply bodyQ_d4); (exact .inr rfl); (rw [Try.results24]))); (first | (focus (simp only [go_sem, ↓reduceIte, simprocAttr, t2, t10, hb, hu, hn] <;> rfl)) | exact rfl); (first | (fail_if_success (show okD _ _ _ _ _ _ _ _ _)) | (first | exact okT | exact okN | exact okE rfl)); (first | (fail_if_success (show Bel _ _)) | (focus first | exact .val _ | (simp [oneOf, Bel_iff_tup, Bel_iff_agg, Bel_iff_rsl, Bel_iff_fn, Bel_iff_rptr, Bel_val]; done)))) | refine thenQ_n ?_ | refine thenQ_r ?_ | refine thenQ_e ?_ | refine blockQ_n ?_ | refine blockQ_r ?_ | refine blockQ_e ?_ | (apply blockQ_o; (exact rfl)) | refine Awp.seq ?_ | refine Awp.skip ?_ | refine Awp.block ?_ | refine reg (fun s => s == 7) ?_ | (apply drwE mixed (fun s => s == 7); (kernel_rfl)) | refine fin ?_ | refine Awp.ret ?_ | refine Awp.exit ?_ | ((first | (apply off; (exact rfl)) | apply condF); (first | (focus (simp only [go_sem, ↓reduceIte, simprocAttr, t2, t10, hb, hu, hn] <;> rfl)) | exact rfl)))
    all_goals first | contradiction | (exfalso; omega) | skip
    obtain ⟨hR2, hF2⟩ := hC.done
    refine Awp.frzOwn 10 hC.own (by (first | (focus (simp only [go_sem, ↓reduceIte, simprocAttr, t10]; first | done | rfl)) | rfl)) ?_
    rw [hB24]
    repeat' (first | refine spD (fun _ => ?_) (fun _ => ?_) | refine spF (fun _ => ?_) (fun _ => ?_) | (apply gT; (exact rfl)) | (apply off; (exact rfl); (exact rfl)) | (apply condT; (exact rfl)) | (apply condF; (exact rfl)) | ((first | (apply stp0; (exact rfl); (exact rfl)) | (apply stpN0; (exact rfl)) | apply gT | apply condT); (first | (focus (simp only [go_sem, ↓reduceIte, simprocAttr, t2] <;> rfl)) | exact rfl); (first | (fail_if_success (show okD _ _ _ _ _ _ _ _ _)) | (first | exact okT | exact okN | exact okE rfl))) | refine thenQ_n ?_ | refine thenQ_r ?_ | refine thenQ_e ?_ | refine blockQ_n ?_ | refine blockQ_r ?_ | refine blockQ_e ?_ | (apply blockQ_o; (exact rfl)) | refine Awp.seq ?_ | refine Awp.skip ?_ | refine Awp.block ?_ | refine reg (fun s => s == 7) ?_ | (apply drwE mixed (fun s => s == 7); (kernel_rfl)) | refine fin ?_ | refine Awp.ret ?_ | refine Awp.exit ?_ | ((first | (apply off; (exact rfl)) | apply condF); (first | (focus (simp only [go_sem, ↓reduceIte, simprocAttr, t2] <;> rfl)) | exact rfl)))
    all_goals first | contradiction | (exfalso; omega) | skip
    refine bodyQ_mk (vs := [.rsl (ints ds) false, iv 0]) (.inr rfl) (by rw [Try.results24]; simp only [go_sem, ↓reduceIte, simprocAttr]) (Vs.refl _ _ _) ?_
    have := hq (ownK K' a) w' (by rw [← hsh]; exact hR2) hF2 (fun j m e => by rw [hrow] at e; cases e; exact hC.lo)
    rw [← hsh] at this
    exact this

end Go.Proofs.Ytlhchnnfgppneaa.Ab
namespace Go.Proofs.Ytlhchnnfgppneaa.Ab
open Go Go.RowKit Go.Proofs
set_option linter.unusedSimpArgs false
set_option linter.unusedVariables false
attribute [local irreducible] Awp wpO thenQ blockQ bodyQ ACalls stepA

set_option maxRecDepth 8000 in
set_option maxHeartbeats 8000000 in
theorem Put_ok {H : Hp} {F : Ft} {w : Rw} {S : Bf} (hR : Rep H F w S) (hg : Good S) (hl : S.L.length ≤ 256) (r : Item) :
    ACalls Try.prog 24 [.mptr F.b 0 0, .agg r.cs] H (PutPost H F w S r) := by
  have hb := hR.raw.hb
  have hr := hR.raw.hr
  simp only [Rw.cs] at hb
  have hv := valid_ok hR.raw
  have hck := fun H => check_ok H r
  have hbb := held hb
  have hrr := held hr
  have hlk : ∀ H2 : Hp, H2[F.r]? = some (.amap (ents w.kr)) → lookA Try.prog 40 (.mp F.r) (iv r.id) true H2 = some (.tup [(getM w.kr r.id).getD recZ, bv (getM w.kr r.id).isSome]) := fun H2 h2 => (mT40.look0 h2 r.id).1
  have hgm : getM w.kr r.id = recF S.L r.id := hR.mr.get _
  rcases putE_ok S r with ⟨h1, hcd, hE⟩ | ⟨h1, hcd, h2⟩
  · rw [hcd] at hck
    have n2 : ¬ (2 : Int) = 0 := by omega
    simp only [Item.cs] at hck ⊢
    refine ACalls.of_body Try.func24 rfl (by kernel_rfl) (by rw [Try.ntmps24]; simp) ?_; rw [Try.ntmps24]
    repeat' ((fail_if_success (apply stopR (id := 6))); (fail_if_success (apply stopS (id := 6))); first | refine spD (fun _ => ?_) (fun _ => ?_) | refine spF (fun _ => ?_) (fun _ => ?_) | (apply gT; (exact rfl)) | (apply off; (exact rfl); (exact rfl)) | (apply condT; (exact rfl)) | (apply condF; (exact rfl)) | ((first | (apply stp0; (exact rfl); (exact rfl)) | (apply stpN0; (exact rfl)) | apply gT | apply condT); (first | (focus (simp only [go_sem, ↓reduceIte, simprocAttr, n2] <;> rfl)) | exact rfl); (first | (fail_if_success (show okD _ _ _ _ _ _ _ _ _)) | (first | exact okT | exact okN | exact okE rfl))) | (apply calTo0; (exact rfl); (iterate 2 (simp only [go_sem, ↓reduceIte, simprocAttr, n2]; rfl)); (first | exact hv | exact hck _); (first | exact okT | exact okN | exact okE rfl)) | refine thenQ_n ?_ | refine thenQ_r ?_ | refine thenQ_e ?_ | refine blockQ_n ?_ | refine blockQ_r ?_ | refine blockQ_e ?_ | (apply blockQ_o; (exact rfl)) | refine Awp.seq ?_ | refine Awp.skip ?_ | refine Awp.block ?_ | refine reg (fun s => s == 7) ?_ | (apply drwE mixed (fun s => s == 7); (kernel_rfl)) | refine fin ?_ | refine Awp.ret ?_ | refine Awp.exit ?_ | ((first | (apply off; (exact rfl)) | apply condF); (first | (focus (simp only [go_sem, ↓reduceIte, simprocAttr, n2] <;> rfl)) | exact rfl)))
    all_goals first | contradiction | (exfalso; omega) | skip
    exact putNo hR hE (by omega) (Grow.refl _) (by rw [Try.results24]; simp only [go_sem, ↓reduceIte, simprocAttr]) (.inr rfl)
  · rw [hcd] at hck
    obtain ⟨q, hq⟩ : ∃ q : Item, (getM w.kr r.id).getD recZ = .agg q.cs := by
      rw [hgm]; unfold recF
      cases e : findH S.L r.id with
      | none => exact ⟨⟨0, 0, 0, 0, 0⟩, rfl⟩
      | some x => exact ⟨x.r, rfl⟩
    rw [hq] at hlk
    have hsm : (getM w.kr r.id).isSome = decide (r.id ∈ idsL S.L) := by
      rw [hgm]; unfold recF
      cases e : findH S.L r.id with
      | none => rw [decide_eq_false (findH_none.1 e)]; rfl
      | some x => rw [decide_eq_true (Classical.byContradiction fun k => by rw [findH_none.2 k] at e; cases e)]; rfl
    rw [hsm] at hlk
    simp only [Item.cs] at hck hlk ⊢
    rcases h2 with ⟨hm, hE⟩ | ⟨hm, h3⟩
    · rw [decide_eq_true hm] at hlk
      have hl0 := hlk H hr
      refine ACalls.of_body Try.func24 rfl (by kernel_rfl) (by rw [Try.ntmps24]; simp) ?_; rw [Try.ntmps24]
      repeat' ((fail_if_success (apply stopR (id := 6))); (fail_if_success (apply stopS (id := 6))); first | refine spD (fun _ => ?_) (fun _ => ?_) | refine spF (fun _ => ?_) (fun _ => ?_) | (apply gT; (exact rfl)) | (apply off; (exact rfl); (exact rfl)) | (apply condT; (exact rfl)) | (apply condF; (exact rfl)) | ((first | (apply stp0; (exact rfl); (exact rfl)) | (apply stpN0; (exact rfl)) | apply gT | apply condT | ((first | apply bodyQ_d0 | apply bodyQ_d1 | apply bodyQ_d2 | apply bodyQ_d3 | apply bodyQ_d4); (exact .inr rfl); (rw [Try.results24]))); (first | (focus (simp only [go_sem, ↓reduceIte, simprocAttr, hb] <;> rfl)) | exact rfl); (first | (fail_if_success (show okD _ _ _ _ _ _ _ _ _)) | (first | exact okT | exact okN | exact okE rfl)); (first | (fail_if_success (show Bel _ _)) | (focus first | exact .val _ | (simp [oneOf, Bel_iff_tup, Bel_iff_agg, Bel_iff_rsl, Bel_iff_fn, Bel_iff_rptr, Bel_val]; done)))) | (apply calTo0; (exact rfl); (iterate 2 (simp only [go_sem, ↓reduceIte, simprocAttr, hb]; rfl)); (first | exact hv | exact hck _); (first | exact okT | exact okN | exact okE rfl)) | refine thenQ_n ?_ | refine thenQ_r ?_ | refine thenQ_e ?_ | refine blockQ_n ?_ | refine blockQ_r ?_ | refine blockQ_e ?_ | (apply blockQ_o; (exact rfl)) | refine Awp.seq ?_ | refine Awp.skip ?_ | refine Awp.block ?_ | refine reg (fun s => s == 7) ?_ | (apply drwE mixed (fun s => s == 7); (kernel_rfl)) | refine fin ?_ | refine Awp.ret ?_ | refine Awp.exit ?_ | ((first | (apply off; (exact rfl)) | apply condF); (first | (focus (simp only [go_sem, ↓reduceIte, simprocAttr, hb] <;> rfl)) | exact rfl)))
      all_goals first | contradiction | (exfalso; omega) | skip
      repeat' ((fail_if_success (apply stopR (id := 7))); (fail_if_success (apply stopS (id := 7))); first | refine spD (fun _ => ?_) (fun _ => ?_) | refine spF (fun _ => ?_) (fun _ => ?_) | (apply gT; (exact rfl)) | (apply off; (exact rfl); (exact rfl)) | (apply condT; (exact rfl)) | (apply condF; (exact rfl)) | ((first | (apply stp0; (exact rfl); (exact rfl)) | (apply stpN0; (exact rfl)) | apply gT | apply condT | ((first | apply bodyQ_d0 | apply bodyQ_d1 | apply bodyQ_d2 | apply bodyQ_d3 | apply bodyQ_d4); (exact .inr rfl); (rw [Try.results24]))); (first | (focus (simp only [go_sem, ↓reduceIte, simprocAttr, hb, hbb, hr, hrr, hl0, hlk] <;> rfl)) | exact rfl); (first | (fail_if_success (show okD _ _ _ _ _ _ _ _ _)) | (first | exact trivial | exact ⟨fun _ => rfl, fun _ _ => rfl, fun h => Bool.noConfusion (show false = true from h)⟩ | (refine ⟨fun _ => rfl, fun _ _ => rfl, fun _ H2 hk => ?_⟩; have e := (hk (F.b) (by simp)).trans (hb); have e2 := (hk (F.r) (by simp)).trans (hr); unfold PerfTo; simp only [callOf]; (focus first | (simp only [go_sem, ↓reduceIte, simprocAttr, hb, hbb, hr, hrr, hl0, hlk, e, e2]; done) | (simp only [go_sem, ↓reduceIte, simprocAttr, hb, hbb, hr, hrr, hl0, hlk, e, e2]; rfl))) | (refine ⟨fun h => Bool.noConfusion (show true = false from h), fun b hQ => ?_, fun h => Bool.noConfusion (show false = true from h)⟩; rcases (by simpa using hQ : b = F.b ∨ b = F.r) with hb' | hb' <;> rw [hb'] <;> (first | (simp only [hbb, hb]; done) | (simp only [hrr, hr]; done) | (simp only [set_new, hbb, hb]; done) | (simp only [set_new, hrr, hr]; done))))); (first | (fail_if_success (show Bel _ _)) | (focus first | exact .val _ | (simp [oneOf, Bel_iff_tup, Bel_iff_agg, Bel_iff_rsl, Bel_iff_fn, Bel_iff_rptr, Bel_val]; done)))) | (apply calTo0; (exact rfl); (iterate 2 (simp only [go_sem, ↓reduceIte, simprocAttr, hb, hbb, hr, hrr, hl0, hlk]; rfl)); (first | (exact hv; (first | (first | exact trivial | exact ⟨fun _ => rfl, fun _ _ => rfl, fun h => Bool.noConfusion (show false = true from h)⟩ | (refine ⟨fun _ => rfl, fun _ _ => rfl, fun _ H2 hk => ?_⟩; have e := (hk (F.b) (by simp)).trans (hb); have e2 := (hk (F.r) (by simp)).trans (hr); unfold PerfTo; simp only [callOf]; (focus first | (simp only [go_sem, ↓reduceIte, simprocAttr, hb, hbb, hr, hrr, hl0, hlk, e, e2]; done) | (simp only [go_sem, ↓reduceIte, simprocAttr, hb, hbb, hr, hrr, hl0, hlk, e, e2]; rfl))) | (refine ⟨fun h => Bool.noConfusion (show true = false from h), fun b hQ => ?_, fun h => Bool.noConfusion (show false = true from h)⟩; rcases (by simpa using hQ : b = F.b ∨ b = F.r) with hb' | hb' <;> rw [hb'] <;> (first | (simp only [hbb, hb]; done) | (simp only [hrr, hr]; done) | (simp only [set_new, hbb, hb]; done) | (simp only [set_new, hrr, hr]; done)))) | exact ⟨fun _ => rfl, fun _ _ => rfl, fun _ H2 hk => by have e := (hk (F.b) (by simp)).trans (hb); have e2 := (hk (F.r) (by simp)).trans (hr); exact perf_call (by (first | (focus (simp only [go_sem, ↓reduceIte, simprocAttr, hb, hbb, hr, hrr, hl0, hlk] <;> rfl)) | exact rfl)) (by (first | (focus (simp only [go_sem, ↓reduceIte, simprocAttr, hb, hbb, hr, hrr, hl0, hlk] <;> rfl)) | exact rfl)) (hv)⟩)))) | refine thenQ_n ?_ | refine thenQ_r ?_ | refine thenQ_e ?_ | refine blockQ_n ?_ | refine blockQ_r ?_ | refine blockQ_e ?_ | (apply blockQ_o; (exact rfl)) | refine Awp.seq ?_ | refine Awp.skip ?_ | refine Awp.block ?_ | refine reg (fun s => s == 7) ?_ | (apply drwL mixed (fun s => s == 7) ⟨fun i => i == 10 || i == 11, fun i => i == 0 || i == 3 || i == 5 || i == 6, fun b => b == F.b || b == F.r⟩; (exact rfl); (kernel_rfl); (kernel_rfl); simp only [List.pop_toArray, List.dropLast_cons_cons, List.dropLast_singleton, List.map_cons, List.map_nil]) | refine fin ?_ | refine Awp.ret ?_ | refine Awp.exit ?_ | ((first | (apply off; (exact rfl)) | apply condF); (first | (focus (simp only [go_sem, ↓reduceIte, simprocAttr, hb, hbb, hr, hrr, hl0, hlk] <;> rfl)) | exact rfl)))
      all_goals first | contradiction | (exfalso; omega) | skip
      repeat' (first | refine spD (fun _ => ?_) (fun _ => ?_) | refine spF (fun _ => ?_) (fun _ => ?_) | (apply gT; (exact rfl)) | (apply off; (exact rfl); (exact rfl)) | (apply condT; (exact rfl)) | (apply condF; (exact rfl)) | ((first | (apply stp0; (exact rfl); (exact rfl)) | (apply stpN0; (exact rfl)) | apply gT | apply condT); (first | (focus (simp only [go_sem, ↓reduceIte, simprocAttr] <;> rfl)) | exact rfl); (first | (fail_if_success (show okD _ _ _ _ _ _ _ _ _)) | (first | exact okT | exact okN | exact okE rfl))) | refine thenQ_n ?_ | refine thenQ_r ?_ | refine thenQ_e ?_ | refine blockQ_n ?_ | refine blockQ_r ?_ | refine blockQ_e ?_ | (apply blockQ_o; (exact rfl)) | refine Awp.seq ?_ | refine Awp.skip ?_ | refine Awp.block ?_ | refine reg (fun s => s == 7) ?_ | (apply drwE mixed (fun s => s == 7); (kernel_rfl)) | refine fin ?_ | refine Awp.ret ?_ | refine Awp.exit ?_ | ((first | (apply off; (exact rfl)) | apply condF); (first | (focus (simp only [go_sem, ↓reduceIte, simprocAttr] <;> rfl)) | exact rfl)))
      all_goals first | contradiction | (exfalso; omega) | skip
      exact putNo hR hE (by omega) ((Grow.refl _).app _) (by rw [Try.results24]; simp only [go_sem, ↓reduceIte, simprocAttr]) (.inr rfl)
    · rw [decide_eq_false hm] at hlk
      have hl0 := hlk H hr
      refine ACalls.of_body Try.func24 rfl (by kernel_rfl) (by rw [Try.ntmps24]; simp) ?_; rw [Try.ntmps24]
      repeat' ((fail_if_success (apply stopR (id := 6))); (fail_if_success (apply stopS (id := 6))); first | refine spD (fun _ => ?_) (fun _ => ?_) | refine spF (fun _ => ?_) (fun _ => ?_) | (apply gT; (exact rfl)) | (apply off; (exact rfl); (exact rfl)) | (apply condT; (exact rfl)) | (apply condF; (exact rfl)) | ((first | (apply stp0; (exact rfl); (exact rfl)) | (apply stpN0; (exact rfl)) | apply gT | apply condT | ((first | apply bodyQ_d0 | apply bodyQ_d1 | apply bodyQ_d2 | apply bodyQ_d3 | apply bodyQ_d4); (exact .inr rfl); (rw [Try.results24]))); (first | (focus (simp only [go_sem, ↓reduceIte, simprocAttr, hb] <;> rfl)) | exact rfl); (first | (fail_if_success (show okD _ _ _ _ _ _ _ _ _)) | (first | exact okT | exact okN | exact okE rfl)); (first | (fail_if_success (show Bel _ _)) | (focus first | exact .val _ | (simp [oneOf, Bel_iff_tup, Bel_iff_agg, Bel_iff_rsl, Bel_iff_fn, Bel_iff_rptr, Bel_val]; done)))) | (apply calTo0; (exact rfl); (iterate 2 (simp only [go_sem, ↓reduceIte, simprocAttr, hb]; rfl)); (first | exact hv | exact hck _); (first | exact okT | exact okN | exact okE rfl)) | refine thenQ_n ?_ | refine thenQ_r ?_ | refine thenQ_e ?_ | refine blockQ_n ?_ | refine blockQ_r ?_ | refine blockQ_e ?_ | (apply blockQ_o; (exact rfl)) | refine Awp.seq ?_ | refine Awp.skip ?_ | refine Awp.block ?_ | refine reg (fun s => s == 7) ?_ | (apply drwE mixed (fun s => s == 7); (kernel_rfl)) | refine fin ?_ | refine Awp.ret ?_ | refine Awp.exit ?_ | ((first | (apply off; (exact rfl)) | apply condF); (first | (focus (simp only [go_sem, ↓reduceIte, simprocAttr, hb] <;> rfl)) | exact rfl)))
      all_goals first | contradiction | (exfalso; omega) | skip
      repeat' ((fail_if_success (apply stopR (id := 7))); (fail_if_success (apply stopS (id := 7))); first | refine spD (fun _ => ?_) (fun _ => ?_) | refine spF (fun _ => ?_) (fun _ => ?_) | (apply gT; (exact rfl)) | (apply off; (exact rfl); (exact rfl)) | (apply condT; (exact rfl)) | (apply condF; (exact rfl)) | ((first | (apply stp0; (exact rfl); (exact rfl)) | (apply stpN0; (exact rfl)) | apply gT | apply condT | ((first | apply bodyQ_d0 | apply bodyQ_d1 | apply bodyQ_d2 | apply bodyQ_d3 | apply bodyQ_d4); (exact .inr rfl); (rw [Try.results24]))); (first | (focus (simp only [go_sem, ↓reduceIte, simprocAttr, hb, hbb, hr, hrr, hl0, hlk] <;> rfl)) | exact rfl); (first | (fail_if_success (show okD _ _ _ _ _ _ _ _ _)) | (first | exact trivial | exact ⟨fun _ => rfl, fun _ _ => rfl, fun h => Bool.noConfusion (show false = true from h)⟩ | (refine ⟨fun _ => rfl, fun _ _ => rfl, fun _ H2 hk => ?_⟩; have e := (hk (F.b) (by simp)).trans (hb); have e2 := (hk (F.r) (by simp)).trans (hr); unfold PerfTo; simp only [callOf]; (focus first | (simp only [go_sem, ↓reduceIte, simprocAttr, hb, hbb, hr, hrr, hl0, hlk, e, e2]; done) | (simp only [go_sem, ↓reduceIte, simprocAttr, hb, hbb, hr, hrr, hl0, hlk, e, e2]; rfl))) | (refine ⟨fun h => Bool.noConfusion (show true = false from h), fun b hQ => ?_, fun h => Bool.noConfusion (show false = true from h)⟩; rcases (by simpa using hQ : b = F.b ∨ b = F.r) with hb' | hb' <;> rw [hb'] <;> (first | (simp only [hbb, hb]; done) | (simp only [hrr, hr]; done) | (simp only [set_new, hbb, hb]; done) | (simp only [set_new, hrr, hr]; done))))); (first | (fail_if_success (show Bel _ _)) | (focus first | exact .val _ | (simp [oneOf, Bel_iff_tup, Bel_iff_agg, Bel_iff_rsl, Bel_iff_fn, Bel_iff_rptr, Bel_val]; done)))) | (apply calTo0; (exact rfl); (iterate 2 (simp only [go_sem, ↓reduceIte, simprocAttr, hb, hbb, hr, hrr, hl0, hlk]; rfl)); (first | (exact hv; (first | (first | exact trivial | exact ⟨fun _ => rfl, fun _ _ => rfl, fun h => Bool.noConfusion (show false = true from h)⟩ | (refine ⟨fun _ => rfl, fun _ _ => rfl, fun _ H2 hk => ?_⟩; have e := (hk (F.b) (by simp)).trans (hb); have e2 := (hk (F.r) (by simp)).trans (hr); unfold PerfTo; simp only [callOf]; (focus first | (simp only [go_sem, ↓reduceIte, simprocAttr, hb, hbb, hr, hrr, hl0, hlk, e, e2]; done) | (simp only [go_sem, ↓reduceIte, simprocAttr, hb, hbb, hr, hrr, hl0, hlk, e, e2]; rfl))) | (refine ⟨fun h => Bool.noConfusion (show true = false from h), fun b hQ => ?_, fun h => Bool.noConfusion (show false = true from h)⟩; rcases (by simpa using hQ : b = F.b ∨ b = F.r) with hb' | hb' <;> rw [hb'] <;> (first | (simp only [hbb, hb]; done) | (simp only [hrr, hr]; done) | (simp only [set_new, hbb, hb]; done) | (simp only [set_new, hrr, hr]; done)))) | exact ⟨fun _ => rfl, fun _ _ => rfl, fun _ H2 hk => by have e := (hk (F.b) (by simp)).trans (hb); have e2 := (hk (F.r) (by simp)).trans (hr); exact perf_call (by (first | (focus (simp only [go_sem, ↓reduceIte, simprocAttr, hb, hbb, hr, hrr, hl0, hlk] <;> rfl)) | exact rfl)) (by (first | (focus (simp only [go_sem, ↓reduceIte, simprocAttr, hb, hbb, hr, hrr, hl0, hlk] <;> rfl)) | exact rfl)) (hv)⟩)))) | refine thenQ_n ?_ | refine thenQ_r ?_ | refine thenQ_e ?_ | refine blockQ_n ?_ | refine blockQ_r ?_ | refine blockQ_e ?_ | (apply blockQ_o; (exact rfl)) | refine Awp.seq ?_ | refine Awp.skip ?_ | refine Awp.block ?_ | refine reg (fun s => s == 7) ?_ | (apply drwL mixed (fun s => s == 7) ⟨fun i => i == 10 || i == 11, fun i => i == 0 || i == 3 || i == 5 || i == 6, fun b => b == F.b || b == F.r⟩; (exact rfl); (kernel_rfl); (kernel_rfl); simp only [List.pop_toArray, List.dropLast_cons_cons, List.dropLast_singleton, List.map_cons, List.map_nil]) | refine fin ?_ | refine Awp.ret ?_ | refine Awp.exit ?_ | ((first | (apply off; (exact rfl)) | apply condF); (first | (focus (simp only [go_sem, ↓reduceIte, simprocAttr, hb, hbb, hr, hrr, hl0, hlk] <;> rfl)) | exact rfl)))
      all_goals first | contradiction | (exfalso; omega) | skip
      refine Awp.withT (fun T' => T' 2 = .rptr [.mptr F.b 0 0] 0 ∧ T' 3 = .rptr [iv r.id, iv r.cls, iv r.made, iv r.size, iv r.pk] 0 ∧ T' 8 = bv false) ⟨?_, ?_, ?_⟩ ?_
      · (first | (focus (simp only [go_sem, ↓reduceIte, simprocAttr]; first | done | rfl)) | rfl)
      · (first | (focus (simp only [go_sem, ↓reduceIte, simprocAttr]; first | done | rfl)) | rfl)
      · (first | (focus (simp only [go_sem, ↓reduceIte, simprocAttr]; first | done | rfl)) | rfl)
      rintro T ⟨t2, t3, t8⟩
      have hG := (Grow.refl H).app [.cells [[iv q.id, iv q.cls, iv q.made, iv q.size, iv q.pk]] 23]
      generalize H ++ [AObj.cells [[iv q.id, iv q.cls, iv q.made, iv q.size, iv q.pk]] 23] = K at hG ⊢
      have hRK := hR.grow hG
      have hbK := hRK.raw.hb
      simp only [Rw.cs] at hbK
      have hcap := hR.cap
      rcases h3 with ⟨h4, hE⟩ | ⟨h4, hE⟩
      · have h5 : r.pk > w.cap := by rw [hcap]; exact h4
        repeat' (first | refine spD (fun _ => ?_) (fun _ => ?_) | refine spF (fun _ => ?_) (fun _ => ?_) | (apply gT; (exact rfl)) | (apply off; (exact rfl); (exact rfl)) | (apply condT; (exact rfl)) | (apply condF; (exact rfl)) | ((first | (apply stp0; (exact rfl); (exact rfl)) | (apply stpN0; (exact rfl)) | apply gT | apply condT); (first | (focus (simp only [go_sem, ↓reduceIte, simprocAttr, t2, t3, t8, hbK, h5] <;> rfl)) | exact rfl); (first | (fail_if_success (show okD _ _ _ _ _ _ _ _ _)) | (first | exact okT | exact okN | exact okE rfl))) | refine thenQ_n ?_ | refine thenQ_r ?_ | refine thenQ_e ?_ | refine blockQ_n ?_ | refine blockQ_r ?_ | refine blockQ_e ?_ | (apply blockQ_o; (exact rfl)) | refine Awp.seq ?_ | refine Awp.skip ?_ | refine Awp.block ?_ | refine reg (fun s => s == 7) ?_ | (apply drwE mixed (fun s => s == 7); (kernel_rfl)) | refine fin ?_ | refine Awp.ret ?_ | refine Awp.exit ?_ | ((first | (apply off; (exact rfl)) | apply condF); (first | (focus (simp only [go_sem, ↓reduceIte, simprocAttr, t2, t3, t8, hbK, h5] <;> rfl)) | exact rfl)))
        all_goals first | contradiction | (exfalso; omega) | skip
        exact putNo hR hE (by omega) hG (by rw [Try.results24]; simp only [go_sem, ↓reduceIte, simprocAttr]) (.inr rfl)
      · have h5 : ¬ r.pk > w.cap := by rw [hcap]; exact h4
        have hpl := place_ok hRK hg r (placeN S.L r) (placeN_le _ _) (placeN_spec hg.srt)
        have hpN := placeN_le r S.L
        simp only [Item.cs] at hpl
        repeat' ((fail_if_success (apply stopR (id := 12))); (fail_if_success (apply stopS (id := 12))); first | refine spD (fun _ => ?_) (fun _ => ?_) | refine spF (fun _ => ?_) (fun _ => ?_) | (apply gT; (exact rfl)) | (apply off; (exact rfl); (exact rfl)) | (apply condT; (exact rfl)) | (apply condF; (exact rfl)) | ((first | (apply stp0; (exact rfl); (exact rfl)) | (apply stpN0; (exact rfl)) | apply gT | apply condT | ((first | apply bodyQ_d0 | apply bodyQ_d1 | apply bodyQ_d2 | apply bodyQ_d3 | apply bodyQ_d4); (exact .inr rfl); (rw [Try.results24]))); (first | (focus (simp only [go_sem, ↓reduceIte, simprocAttr, t2, t3, t8, hbK, h5] <;> rfl)) | exact rfl); (first | (fail_if_success (show okD _ _ _ _ _ _ _ _ _)) | (first | exact okT | exact okN | exact okE rfl)); (first | (fail_if_success (show Bel _ _)) | (focus first | exact .val _ | (simp [oneOf, Bel_iff_tup, Bel_iff_agg, Bel_iff_rsl, Bel_iff_fn, Bel_iff_rptr, Bel_val]; done)))) | (apply calTo0; (exact rfl); (iterate 2 (simp only [go_sem, ↓reduceIte, simprocAttr, t2, t3, t8, hbK, h5]; rfl)); (first | exact hpl); (first | exact okT | exact okN | exact okE rfl)) | refine thenQ_n ?_ | refine thenQ_r ?_ | refine thenQ_e ?_ | refine blockQ_n ?_ | refine blockQ_r ?_ | refine blockQ_e ?_ | (apply blockQ_o; (exact rfl)) | refine Awp.seq ?_ | refine Awp.skip ?_ | refine Awp.block ?_ | refine reg (fun s => s == 7) ?_ | (apply drwE mixed (fun s => s == 7); (kernel_rfl)) | refine fin ?_ | refine Awp.ret ?_ | refine Awp.exit ?_ | ((first | (apply off; (exact rfl)) | apply condF); (first | (focus (simp only [go_sem, ↓reduceIte, simprocAttr, t2, t3, t8, hbK, h5] <;> rfl)) | exact rfl)))
        all_goals first | contradiction | (exfalso; omega) | skip
        have hP : putR S r = shr (S.ins r).mu (S.ins r) [] := by unfold putR; rw [if_pos hE]
        refine put12 (H := H) hG hRK hg hl h1 hm (by (first | (focus (simp only [go_sem, ↓reduceIte, simprocAttr, t2]; first | done | rfl)) | rfl)) (by (first | (focus (simp only [go_sem, ↓reduceIte, simprocAttr, t3]; first | done | rfl)) | rfl)) (by (first | (focus (simp only [go_sem, ↓reduceIte, simprocAttr]; first | done | rfl)) | rfl)) fun T2 K2 w2 ht hR2 hF2 ⟨n, ho⟩ => ?_
        have hnl : n = (S.ins r).L.length := by
          obtain ⟨v, _, hnv, _, hids⟩ := hR2.ord.blk ho
          have := congrArg List.length hids
          rw [List.length_take, Nat.min_eq_left hnv] at this
          simpa [idsL] using this.symm
        have hil : (S.ins r).L.length = S.L.length + 1 := insA_len
        have hgl := hG.len
        have hF3 : FrO F w H K2 := ⟨Nat.le_trans hG.len hF2.len, fun j hj a b c d e => (hF2.old j (Nat.lt_of_lt_of_le hj hG.len) a b c d e).trans (hG.old j hj)⟩
        have hC : Cut H K2 F w w2 (S.ins r) (K.length + 1) nilS [] := ⟨hR2, hg.insG hl h1 hm, by rw [ho, hnl], by omega, .nil, hF3, (by intro m e; cases e), by rw [hil]; simp; omega, hR.raw.lt⟩
        refine put15 hC ht fun H1 w3 q1 q2 q3 => ⟨w3, ?_, ?_, q2, .inr q3⟩
        · rw [hP, hE]
        · rw [hP]; exact q1

end Go.Proofs.Ytlhchnnfgppneaa.Ab
namespace Go.Proofs.Ytlhchnnfgppneaa.Ab
open Go Go.RowKit Go.Proofs
set_option linter.unusedSimpArgs false
set_option linter.unusedVariables false
attribute [local irreducible] Awp wpO thenQ blockQ bodyQ ACalls stepA

theorem Own.hiSet {lo : Nat} {t : TypeId} {K : Hp} {a : AV} {es : List (List AV)} (h : Own lo t K a es) {B : Hp} (hG : Grow K B) {s : Nat} (hs : K.length ≤ s) (c : AObj) : Own lo t (B.set s c) a es := by
  cases h with
  | nil => exact .nil
  | fix => exact .fix
  | row hn hlo hb =>
    refine .row hn hlo ?_
    have := (List.getElem?_eq_some_iff.1 hb).1
    rw [List.getElem?_set_ne (by omega)]; exact hG.get hb
def Hd.cs (h : Hd) : List AV := [iv h.r.id, iv h.r.cls, iv h.r.made, iv h.r.size, iv h.r.pk, bv h.sm, iv h.sent]
def hds (L : List Hd) : List (List AV) := L.map Hd.cs
theorem hds_len (L : List Hd) : (hds L).length = L.length := by simp [hds]
theorem hds_at {L : List Hd} {i : Nat} {h : Hd} (hi : L[i]? = some h) : (hds L)[i]? = some [iv h.r.id, iv h.r.cls, iv h.r.made, iv h.r.size, iv h.r.pk, bv h.sm, iv h.sent] := nthMap Hd.cs hi
theorem plainHds (L : List Hd) : Plain (hds L) := by
  intro e he a ha
  obtain ⟨h, _, rfl⟩ := List.mem_map.1 he
  simp only [Hd.cs, List.mem_cons, List.not_mem_nil, or_false] at ha
  rcases ha with rfl | rfl | rfl | rfl | rfl | rfl | rfl <;> exact ⟨_, rfl⟩
theorem hds_seven (L : List Hd) : ∀ e ∈ hds L, e.length = 7 := by
  intro e he
  obtain ⟨h, _, rfl⟩ := List.mem_map.1 he
  rfl
theorem hds_succ {L : List Hd} {i : Nat} {h : Hd} (hi : L[i]? = some h) : hds (L.take (i + 1)) = hds (L.take i) ++ [[iv h.r.id, iv h.r.cls, iv h.r.made, iv h.r.size, iv h.r.pk, bv h.sm, iv h.sent]] := by
  rw [List.take_add_one, hi]; simp [hds, Hd.cs]

set_option maxRecDepth 8000 in
theorem New_ok (H : Hp) (c : Int) (h1 : 1 ≤ c) (h2 : c ≤ 16777216) :
    ACalls Try.prog 16 [iv c] H fun v1 H1 => ∃ F w, v1 = .tup [.mptr F.b 0 0, iv 0] ∧ Rep H1 F w ⟨c, 0, 0, []⟩ ∧ w.ord = nilS ∧ Grow H H1 ∧ H.length ≤ F.b ∧ H.length ≤ F.r ∧ H.length ≤ F.s ∧ H.length ≤ F.t := by
  have ho := fun H => outside_ok H c 1 16777216
  rw [decide_eq_false (by omega)] at ho
  refine ACalls.of_body Try.func16 rfl (by kernel_rfl) (by rw [Try.ntmps16]; simp) ?_; rw [Try.ntmps16]
  repeat' (first | refine spD (fun _ => ?_) (fun _ => ?_) | refine spF (fun _ => ?_) (fun _ => ?_) | (apply gT; (exact rfl)) | (apply off; (exact rfl); (exact rfl)) | (apply condT; (exact rfl)) | (apply condF; (exact rfl)) | ((first | (apply stp0; (exact rfl); (exact rfl)) | (apply stpN0; (exact rfl)) | apply gT | apply condT | ((first | apply bodyQ_d0 | apply bodyQ_d1 | apply bodyQ_d2 | apply bodyQ_d3 | apply bodyQ_d4); (exact .inr rfl); (rw [Try.results16]))); (first | (focus (simp only [go_sem, ↓reduceIte, simprocAttr] <;> rfl)) | exact rfl); (first | (fail_if_success (show okD _ _ _ _ _ _ _ _ _)) | (first | exact okT | exact okN | exact okE rfl)); (first | (fail_if_success (show Bel _ _)) | (focus first | exact .val _ | (simp [oneOf, Bel_iff_tup, Bel_iff_agg, Bel_iff_rsl, Bel_iff_fn, Bel_iff_rptr, Bel_val]; done)))) | (apply calTo0; (exact rfl); (iterate 2 (simp only [go_sem, ↓reduceIte, simprocAttr]; rfl)); (first | exact ho _); (first | exact okT | exact okN | exact okE rfl)) | refine thenQ_n ?_ | refine thenQ_r ?_ | refine thenQ_e ?_ | refine blockQ_n ?_ | refine blockQ_r ?_ | refine blockQ_e ?_ | (apply blockQ_o; (exact rfl)) | refine Awp.seq ?_ | refine Awp.skip ?_ | refine Awp.block ?_ | refine reg (fun s => s == 11) ?_ | (apply drwE mixed (fun s => s == 11); (kernel_rfl)) | refine fin ?_ | refine Awp.ret ?_ | refine Awp.exit ?_ | ((first | (apply off; (exact rfl)) | apply condF); (first | (focus (simp only [go_sem, ↓reduceIte, simprocAttr] <;> rfl)) | exact rfl)))
  all_goals first | contradiction | (exfalso; omega) | skip
  have e1 : (H ++ [AObj.amap []]).length = H.length + 1 := by simp
  have e2 : (H ++ [AObj.amap []] ++ [AObj.amap []]).length = H.length + 2 := by simp
  have e3 : (H ++ [AObj.amap []] ++ [AObj.amap []] ++ [AObj.amap []]).length = H.length + 3 := by simp
  simp only [e1, e2, e3]
  refine bodyQ_mk (vs := [.mptr (H.length + 3) 0 0, iv 0]) (.inr rfl) (by rw [Try.results16]; simp only [go_sem, ↓reduceIte, simprocAttr]) (Vs.refl _ _ _) ⟨⟨H.length + 3, H.length, H.length + 1, H.length + 2⟩, ⟨c, 0, 0, nilS, [], [], []⟩, rfl, ?_, rfl, ?_, ?_, ?_, ?_, ?_⟩
  · refine ⟨⟨?_, ?_, ?_, ?_, ?_, ?_, ?_⟩, rfl, rfl, rfl, .nil, .nil, .nil, .nil⟩
    · rw [← e3]; exact get_new _ _
    · exact get_new4 _ _ _ _ _
    · show _[H.length + 1]? = _; rw [← e1]; exact get_new3 _ _ _ _
    · show _[H.length + 2]? = _; rw [← e2]; exact get_new2 _ _ _
    · show H.length ≠ H.length + 1; omega
    · show H.length ≠ H.length + 2; omega
    · show H.length + 1 ≠ H.length + 2; omega
  · exact ((((Grow.refl _).app _).app _).app _).app _
  all_goals (simp only; omega)

set_option maxRecDepth 8000 in
set_option maxHeartbeats 4000000 in
theorem Held_ok {H : Hp} {F : Ft} {w : Rw} {S : Bf} (hR : Rep H F w S) (hg : Good S) : CallsTo Try.prog 23 [.mptr F.b 0 0] H (.rsl (hds S.L) false) H := by
  have hb := hR.raw.hb
  simp only [Rw.cs] at hb
  have hv := valid_ok hR.raw
  have hlm := hg.len
  have hbt := hR.raw.lt
  obtain ⟨ids, hids⟩ : ∃ ids, ids = idsL S.L := ⟨_, rfl⟩
  have hO := hR.ord
  have hil : ids.length = S.L.length := by rw [hids]; simp [idsL]
  rw [← hids] at hO
  obtain ⟨ord, hord⟩ : ∃ ord, ord = w.ord := ⟨_, rfl⟩
  rw [← hord] at hO hb
  cases hO with
  | nil =>
    have hL : S.L = [] := List.eq_nil_of_length_eq_zero (by rw [← hil]; rfl)
    rw [hL]
    refine ACalls.of_body Try.func23 rfl (by kernel_rfl) (by rw [Try.ntmps23]; simp) ?_; rw [Try.ntmps23]
    repeat' (first | refine spD (fun _ => ?_) (fun _ => ?_) | refine spF (fun _ => ?_) (fun _ => ?_) | (apply gT; (exact rfl)) | (apply off; (exact rfl); (exact rfl)) | (apply condT; (exact rfl)) | (apply condF; (exact rfl)) | ((first | (apply stp0; (exact rfl); (exact rfl)) | (apply stpN0; (exact rfl)) | apply gT | apply condT | ((first | apply bodyQ_d0 | apply bodyQ_d1 | apply bodyQ_d2 | apply bodyQ_d3 | apply bodyQ_d4); (exact .inr rfl); (rw [Try.results23]))); (first | (focus (simp only [go_sem, ↓reduceIte, simprocAttr, hb] <;> rfl)) | exact rfl); (first | (fail_if_success (show okD _ _ _ _ _ _ _ _ _)) | (first | exact okT | exact okN | exact okE rfl)); (first | (fail_if_success (show Bel _ _)) | (focus first | exact .val _ | (simp [oneOf, Bel_iff_tup, Bel_iff_agg, Bel_iff_rsl, Bel_iff_fn, Bel_iff_rptr, Bel_val]; done)))) | (apply calTo0; (exact rfl); (iterate 2 (simp only [go_sem, ↓reduceIte, simprocAttr, hb]; rfl)); (first | exact hv); (first | exact okT | exact okN | exact okE rfl)) | refine thenQ_n ?_ | refine thenQ_r ?_ | refine thenQ_e ?_ | refine blockQ_n ?_ | refine blockQ_r ?_ | refine blockQ_e ?_ | (apply blockQ_o; (exact rfl)) | refine Awp.seq ?_ | refine Awp.skip ?_ | refine Awp.block ?_ | refine reg (fun s => s == 6) ?_ | (apply drwE mixed (fun s => s == 6); (kernel_rfl)) | refine fin ?_ | refine Awp.ret ?_ | refine Awp.exit ?_ | ((first | (apply off; (exact rfl)) | apply condF); (first | (focus (simp only [go_sem, ↓reduceIte, simprocAttr, hb] <;> rfl)) | exact rfl)))
    all_goals first | contradiction | (exfalso; omega) | skip
    refine Awp.loop (ι := Nat) (fun _ T' K => T' 17 = iv 0 ∧ T' 16 = iv 0 ∧ T' 3 = nilS ∧ K = H) (fun m => m) 0 ?_ ?_
    · refine ⟨?_, ?_, ?_, rfl⟩
      · (first | (focus (simp only [go_sem, ↓reduceIte, simprocAttr]; first | done | rfl)) | rfl)
      · (first | (focus (simp only [go_sem, ↓reduceIte, simprocAttr]; first | done | rfl)) | rfl)
      · (first | (focus (simp only [go_sem, ↓reduceIte, simprocAttr]; first | done | rfl)) | rfl)
    rintro m T K ⟨t17, t16, t3, hK⟩
    rw [hK]
    repeat' (first | refine spD (fun _ => ?_) (fun _ => ?_) | refine spF (fun _ => ?_) (fun _ => ?_) | (apply gT; (exact rfl)) | (apply off; (exact rfl); (exact rfl)) | (apply condT; (exact rfl)) | (apply condF; (exact rfl)) | ((first | (apply stp0; (exact rfl); (exact rfl)) | (apply stpN0; (exact rfl)) | apply gT | apply condT); (first | (focus (simp only [go_sem, ↓reduceIte, simprocAttr, t17, t16, t3] <;> rfl)) | exact rfl); (first | (fail_if_success (show okD _ _ _ _ _ _ _ _ _)) | (first | exact okT | exact okN | exact okE rfl))) | refine thenQ_n ?_ | refine thenQ_r ?_ | refine thenQ_e ?_ | refine blockQ_n ?_ | refine blockQ_r ?_ | refine blockQ_e ?_ | (apply blockQ_o; (exact rfl)) | refine Awp.seq ?_ | refine Awp.skip ?_ | refine Awp.block ?_ | refine reg (fun s => s == 6) ?_ | (apply drwE mixed (fun s => s == 6); (kernel_rfl)) | refine fin ?_ | refine Awp.ret ?_ | refine Awp.exit ?_ | ((first | (apply off; (exact rfl)) | apply condF); (first | (focus (simp only [go_sem, ↓reduceIte, simprocAttr, t17, t16, t3] <;> rfl)) | exact rfl)))
    all_goals first | contradiction | (exfalso; omega) | skip
    refine bodyQ_own (a := nilS) (t := 53) (es := []) (.inr rfl) ?_ (Grow.refl _) .nil (by intro e he; simp at he)
    rw [Try.results23]; simp only [go_sem, ↓reduceIte, simprocAttr, t3]
  | emp =>
    have hL : S.L = [] := List.eq_nil_of_length_eq_zero (by rw [← hil]; rfl)
    rw [hL]
    refine ACalls.of_body Try.func23 rfl (by kernel_rfl) (by rw [Try.ntmps23]; simp) ?_; rw [Try.ntmps23]
    repeat' (first | refine spD (fun _ => ?_) (fun _ => ?_) | refine spF (fun _ => ?_) (fun _ => ?_) | (apply gT; (exact rfl)) | (apply off; (exact rfl); (exact rfl)) | (apply condT; (exact rfl)) | (apply condF; (exact rfl)) | ((first | (apply stp0; (exact rfl); (exact rfl)) | (apply stpN0; (exact rfl)) | apply gT | apply condT | ((first | apply bodyQ_d0 | apply bodyQ_d1 | apply bodyQ_d2 | apply bodyQ_d3 | apply bodyQ_d4); (exact .inr rfl); (rw [Try.results23]))); (first | (focus (simp only [go_sem, ↓reduceIte, simprocAttr, hb] <;> rfl)) | exact rfl); (first | (fail_if_success (show okD _ _ _ _ _ _ _ _ _)) | (first | exact okT | exact okN | exact okE rfl)); (first | (fail_if_success (show Bel _ _)) | (focus first | exact .val _ | (simp [oneOf, Bel_iff_tup, Bel_iff_agg, Bel_iff_rsl, Bel_iff_fn, Bel_iff_rptr, Bel_val]; done)))) | (apply calTo0; (exact rfl); (iterate 2 (simp only [go_sem, ↓reduceIte, simprocAttr, hb]; rfl)); (first | exact hv); (first | exact okT | exact okN | exact okE rfl)) | refine thenQ_n ?_ | refine thenQ_r ?_ | refine thenQ_e ?_ | refine blockQ_n ?_ | refine blockQ_r ?_ | refine blockQ_e ?_ | (apply blockQ_o; (exact rfl)) | refine Awp.seq ?_ | refine Awp.skip ?_ | refine Awp.block ?_ | refine reg (fun s => s == 6) ?_ | (apply drwE mixed (fun s => s == 6); (kernel_rfl)) | refine fin ?_ | refine Awp.ret ?_ | refine Awp.exit ?_ | ((first | (apply off; (exact rfl)) | apply condF); (first | (focus (simp only [go_sem, ↓reduceIte, simprocAttr, hb] <;> rfl)) | exact rfl)))
    all_goals first | contradiction | (exfalso; omega) | skip
    refine Awp.loop (ι := Nat) (fun _ T' K => T' 17 = iv 0 ∧ T' 16 = iv 0 ∧ T' 3 = nilS ∧ K = H) (fun m => m) 0 ?_ ?_
    · refine ⟨?_, ?_, ?_, rfl⟩
      · (first | (focus (simp only [go_sem, ↓reduceIte, simprocAttr]; first | done | rfl)) | rfl)
      · (first | (focus (simp only [go_sem, ↓reduceIte, simprocAttr]; first | done | rfl)) | rfl)
      · (first | (focus (simp only [go_sem, ↓reduceIte, simprocAttr]; first | done | rfl)) | rfl)
    rintro m T K ⟨t17, t16, t3, hK⟩
    rw [hK]
    repeat' (first | refine spD (fun _ => ?_) (fun _ => ?_) | refine spF (fun _ => ?_) (fun _ => ?_) | (apply gT; (exact rfl)) | (apply off; (exact rfl); (exact rfl)) | (apply condT; (exact rfl)) | (apply condF; (exact rfl)) | ((first | (apply stp0; (exact rfl); (exact rfl)) | (apply stpN0; (exact rfl)) | apply gT | apply condT); (first | (focus (simp only [go_sem, ↓reduceIte, simprocAttr, t17, t16, t3] <;> rfl)) | exact rfl); (first | (fail_if_success (show okD _ _ _ _ _ _ _ _ _)) | (first | exact okT | exact okN | exact okE rfl))) | refine thenQ_n ?_ | refine thenQ_r ?_ | refine thenQ_e ?_ | refine blockQ_n ?_ | refine blockQ_r ?_ | refine blockQ_e ?_ | (apply blockQ_o; (exact rfl)) | refine Awp.seq ?_ | refine Awp.skip ?_ | refine Awp.block ?_ | refine reg (fun s => s == 6) ?_ | (apply drwE mixed (fun s => s == 6); (kernel_rfl)) | refine fin ?_ | refine Awp.ret ?_ | refine Awp.exit ?_ | ((first | (apply off; (exact rfl)) | apply condF); (first | (focus (simp only [go_sem, ↓reduceIte, simprocAttr, t17, t16, t3] <;> rfl)) | exact rfl)))
    all_goals first | contradiction | (exfalso; omega) | skip
    refine bodyQ_own (a := nilS) (t := 53) (es := []) (.inr rfl) ?_ (Grow.refl _) .nil (by intro e he; simp at he)
    rw [Try.results23]; simp only [go_sem, ↓reduceIte, simprocAttr, t3]
  | row hbv hn h0 =>
    rename_i o n v
    have hvl := ints_len v
    rw [List.length_take, Nat.min_eq_left hn] at hil
    refine ACalls.of_body Try.func23 rfl (by kernel_rfl) (by rw [Try.ntmps23]; simp) ?_; rw [Try.ntmps23]
    repeat' (first | refine spD (fun _ => ?_) (fun _ => ?_) | refine spF (fun _ => ?_) (fun _ => ?_) | (apply gT; (exact rfl)) | (apply off; (exact rfl); (exact rfl)) | (apply condT; (exact rfl)) | (apply condF; (exact rfl)) | ((first | (apply stp0; (exact rfl); (exact rfl)) | (apply stpN0; (exact rfl)) | apply gT | apply condT | ((first | apply bodyQ_d0 | apply bodyQ_d1 | apply bodyQ_d2 | apply bodyQ_d3 | apply bodyQ_d4); (exact .inr rfl); (rw [Try.results23]))); (first | (focus (simp only [go_sem, ↓reduceIte, simprocAttr, hb] <;> rfl)) | exact rfl); (first | (fail_if_success (show okD _ _ _ _ _ _ _ _ _)) | (first | exact okT | exact okN | exact okE rfl)); (first | (fail_if_success (show Bel _ _)) | (focus first | exact .val _ | (simp [oneOf, Bel_iff_tup, Bel_iff_agg, Bel_iff_rsl, Bel_iff_fn, Bel_iff_rptr, Bel_val]; done)))) | (apply calTo0; (exact rfl); (iterate 2 (simp only [go_sem, ↓reduceIte, simprocAttr, hb]; rfl)); (first | exact hv); (first | exact okT | exact okN | exact okE rfl)) | refine thenQ_n ?_ | refine thenQ_r ?_ | refine thenQ_e ?_ | refine blockQ_n ?_ | refine blockQ_r ?_ | refine blockQ_e ?_ | (apply blockQ_o; (exact rfl)) | refine Awp.seq ?_ | refine Awp.skip ?_ | refine Awp.block ?_ | refine reg (fun s => s == 6) ?_ | (apply drwE mixed (fun s => s == 6); (kernel_rfl)) | refine fin ?_ | refine Awp.ret ?_ | refine Awp.exit ?_ | ((first | (apply off; (exact rfl)) | apply condF); (first | (focus (simp only [go_sem, ↓reduceIte, simprocAttr, hb] <;> rfl)) | exact rfl)))
    all_goals first | contradiction | (exfalso; omega) | skip
    refine Awp.loop (ι := Nat) (fun i T' K => i ≤ n ∧ T' 17 = iv i ∧ T' 16 = iv n ∧ T' 15 = .msl o 0 n ∧ T' 0 = .mptr F.b 0 0 ∧ Grow H K ∧ ∃ a, T' 3 = a ∧ Own H.length 53 K a (hds (S.L.take i))) (fun i => n - i) 0 ?_ ?_
    · refine ⟨Nat.zero_le _, ?_, ?_, ?_, ?_, Grow.refl _, nilS, ?_, .nil⟩
      · (first | (focus (simp only [go_sem, ↓reduceIte, simprocAttr]; first | done | rfl)) | rfl)
      · (first | (focus (simp only [go_sem, ↓reduceIte, simprocAttr]; first | done | rfl)) | rfl)
      · (first | (focus (simp only [go_sem, ↓reduceIte, simprocAttr]; first | done | rfl)) | rfl)
      · (first | (focus (simp only [go_sem, ↓reduceIte, simprocAttr]; first | done | rfl)) | rfl)
      · (first | (focus (simp only [go_sem, ↓reduceIte, simprocAttr]; first | done | rfl)) | rfl)
    rintro i T K ⟨hi, t17, t16, t15, t0, hG, a, t3, hOw⟩
    by_cases hlt : i < n
    · obtain ⟨h, hh⟩ := nth (l := S.L) (i := i) (by omega)
      have hvi : (ints v)[i]? = some [iv h.r.id] := by
        have h1 : (v.take n)[i]? = some h.r.id := by rw [hids]; unfold idsL; rw [List.getElem?_map, hh]; rfl
        rw [List.getElem?_take, if_pos hlt] at h1
        exact nthMap (fun x => [iv x]) h1
      have hfh := findH_at hg.nd hh
      have hbK := hG.get hb
      have hrK := hG.get hR.raw.hr
      have hsK := hG.get hR.raw.hs
      have htK := hG.get hR.raw.ht
      have hvK := hG.get hbv
      have l1 : ∀ H2 : Hp, H2[F.r]? = some (.amap (ents w.kr)) → lookA Try.prog 40 (.mp F.r) (iv h.r.id) false H2 = some (.agg [iv h.r.id, iv h.r.cls, iv h.r.made, iv h.r.size, iv h.r.pk]) := fun H2 h2 => by
        rw [(mT40.look0 h2 h.r.id).2, hR.mr.get]; unfold recF; rw [hfh]; rfl
      have l2 : ∀ H2 : Hp, H2[F.s]? = some (.amap (ents w.ks)) → lookA Try.prog 106 (.mp F.s) (iv h.r.id) false H2 = some (iv (if h.sm then 1 else 0)) := fun H2 h2 => by
        rw [(mT106.look0 h2 h.r.id).2, hR.ms.get]; unfold smF; rw [hfh]; cases e : h.sm <;> simp [e]
      have l3 : ∀ H2 : Hp, H2[F.t]? = some (.amap (ents w.kt)) → lookA Try.prog 107 (.mp F.t) (iv h.r.id) true H2 = some (if h.sent = -1 then .tup [iv 0, bv false] else .tup [iv h.sent, bv true]) := fun H2 h2 => by
        rw [(mT107.look0 h2 h.r.id).1, hR.mt.get]; unfold stF; rw [hfh]
        by_cases e : h.sent = -1 <;> simp [e]
      have l1K := l1 K hrK
      have l2K := l2 K hsK
      have hgt : decide ((if h.sm then (1 : Int) else 0) > 0) = h.sm := by cases e : h.sm <;> simp
      have hbX := held hbK
      have hrX := held hrK
      have hsX := held hsK
      have hlt' := Int.ofNat_lt.2 hlt
      repeat' ((fail_if_success (apply stopR (id := 7))); (fail_if_success (apply stopS (id := 7))); first | refine spD (fun _ => ?_) (fun _ => ?_) | refine spF (fun _ => ?_) (fun _ => ?_) | (apply gT; (exact rfl)) | (apply off; (exact rfl); (exact rfl)) | (apply condT; (exact rfl)) | (apply condF; (exact rfl)) | ((first | (apply stp0; (exact rfl); (exact rfl)) | (apply stpN0; (exact rfl)) | apply gT | apply condT | ((first | apply bodyQ_d0 | apply bodyQ_d1 | apply bodyQ_d2 | apply bodyQ_d3 | apply bodyQ_d4); (exact .inr rfl); (rw [Try.results23]))); (first | (focus (simp only [go_sem, ↓reduceIte, simprocAttr, hlt', t17, t16, t15, t0, hvK, hvl, hvi, hlt, Nat.zero_add] <;> rfl)) | exact rfl); (first | (fail_if_success (show okD _ _ _ _ _ _ _ _ _)) | (first | exact okT | exact okN | exact okE rfl)); (first | (fail_if_success (show Bel _ _)) | (focus first | exact .val _ | (simp [oneOf, Bel_iff_tup, Bel_iff_agg, Bel_iff_rsl, Bel_iff_fn, Bel_iff_rptr, Bel_val]; done)))) | refine thenQ_n ?_ | refine thenQ_r ?_ | refine thenQ_e ?_ | refine blockQ_n ?_ | refine blockQ_r ?_ | refine blockQ_e ?_ | (apply blockQ_o; (exact rfl)) | refine Awp.seq ?_ | refine Awp.skip ?_ | refine Awp.block ?_ | refine reg (fun s => s == 6) ?_ | (apply drwE mixed (fun s => s == 6); (kernel_rfl)) | refine fin ?_ | refine Awp.ret ?_ | refine Awp.exit ?_ | ((first | (apply off; (exact rfl)) | apply condF); (first | (focus (simp only [go_sem, ↓reduceIte, simprocAttr, hlt', t17, t16, t15, t0, hvK, hvl, hvi, hlt, Nat.zero_add] <;> rfl)) | exact rfl)))
      all_goals first | contradiction | (exfalso; omega) | skip
      cases hsm : h.sm with
      | true =>
        rw [hsm, if_pos rfl] at l2K
        simp only [hsm, if_true] at l2
        repeat' ((fail_if_success (apply stopR (id := 8))); (fail_if_success (apply stopS (id := 8))); first | refine spD (fun _ => ?_) (fun _ => ?_) | refine spF (fun _ => ?_) (fun _ => ?_) | (apply gT; (exact rfl)) | (apply off; (exact rfl); (exact rfl)) | (apply condT; (exact rfl)) | (apply condF; (exact rfl)) | ((first | (apply stp0; (exact rfl); (exact rfl)) | (apply stpN0; (exact rfl)) | apply gT | apply condT | ((first | apply bodyQ_d0 | apply bodyQ_d1 | apply bodyQ_d2 | apply bodyQ_d3 | apply bodyQ_d4); (exact .inr rfl); (rw [Try.results23]))); (first | (focus (simp only [go_sem, ↓reduceIte, simprocAttr, t17, t16, t15, t0, hbK, hrK, hsK, hbX, l1, l2, l1K, l2K] <;> rfl)) | exact rfl); (first | (fail_if_success (show okD _ _ _ _ _ _ _ _ _)) | (first | exact trivial | exact ⟨fun _ => rfl, fun _ _ => rfl, fun h => Bool.noConfusion (show false = true from h)⟩ | (refine ⟨fun _ => rfl, fun _ _ => rfl, fun _ H2 hk => ?_⟩; have e := (hk (F.b) (by simp)).trans (hbK); have e2 := (hk (F.r) (by simp)).trans (hrK); have e3 := (hk (F.s) (by simp)).trans (hsK); unfold PerfTo; simp only [callOf]; (focus first | (simp only [go_sem, ↓reduceIte, simprocAttr, t17, t16, t15, t0, hbK, hrK, hsK, hbX, l1, l2, l1K, l2K, e, e2, e3]; done) | (simp only [go_sem, ↓reduceIte, simprocAttr, t17, t16, t15, t0, hbK, hrK, hsK, hbX, l1, l2, l1K, l2K, e, e2, e3]; rfl))) | (refine ⟨fun h => Bool.noConfusion (show true = false from h), fun b hQ => ?_, fun h => Bool.noConfusion (show false = true from h)⟩; rcases (by simpa [or_assoc] using hQ : b = F.b ∨ b = F.r ∨ b = F.s) with hb' | hb' | hb' <;> rw [hb'] <;> (first | (simp only [hbX, hbK]; done) | (simp only [hrX, hrK]; done) | (simp only [hsX, hsK]; done))))); (first | (fail_if_success (show Bel _ _)) | (focus first | exact .val _ | (simp [oneOf, Bel_iff_tup, Bel_iff_agg, Bel_iff_rsl, Bel_iff_fn, Bel_iff_rptr, Bel_val]; done)))) | refine thenQ_n ?_ | refine thenQ_r ?_ | refine thenQ_e ?_ | refine blockQ_n ?_ | refine blockQ_r ?_ | refine blockQ_e ?_ | (apply blockQ_o; (exact rfl)) | refine Awp.seq ?_ | refine Awp.skip ?_ | refine Awp.block ?_ | refine reg (fun s => s == 6) ?_ | (apply drwL mixed (fun s => s == 6) ⟨fun i => i == 14, fun i => i == 3 || i == 5 || i == 9 || i == 11, fun b => b == F.b || b == F.r || b == F.s⟩; (exact rfl); (kernel_rfl); (kernel_rfl); simp only [List.pop_toArray, List.dropLast_cons_cons, List.dropLast_singleton, List.map_cons, List.map_nil]) | refine fin ?_ | refine Awp.ret ?_ | refine Awp.exit ?_ | ((first | (apply off; (exact rfl)) | apply condF); (first | (focus (simp only [go_sem, ↓reduceIte, simprocAttr, t17, t16, t15, t0, hbK, hrK, hsK, hbX, l1, l2, l1K, l2K] <;> rfl)) | exact rfl)))
        all_goals first | contradiction | (exfalso; omega) | skip
        refine Awp.withT (fun T' => T' 17 = iv i ∧ T' 16 = iv n ∧ T' 15 = .msl o 0 n ∧ T' 0 = .mptr F.b 0 0 ∧ T' 3 = a ∧ T' 5 = iv h.r.id ∧ T' 6 = .mptr K.length 0 0) ⟨?_, ?_, ?_, ?_, ?_, ?_, ?_⟩ ?_
        · (first | (focus (simp only [go_sem, ↓reduceIte, simprocAttr, t17]; first | done | rfl)) | rfl)
        · (first | (focus (simp only [go_sem, ↓reduceIte, simprocAttr, t16]; first | done | rfl)) | rfl)
        · (first | (focus (simp only [go_sem, ↓reduceIte, simprocAttr, t15]; first | done | rfl)) | rfl)
        · (first | (focus (simp only [go_sem, ↓reduceIte, simprocAttr, t0]; first | done | rfl)) | rfl)
        · (first | (focus (simp only [go_sem, ↓reduceIte, simprocAttr, t3]; first | done | rfl)) | rfl)
        · (first | (focus (simp only [go_sem, ↓reduceIte, simprocAttr]; first | done | rfl)) | rfl)
        · (first | (focus (simp only [go_sem, ↓reduceIte, simprocAttr]; first | done | rfl)) | rfl)
        clear t17 t16 t15 t0 t3 T
        rintro T ⟨t17, t16, t15, t0, t3, t5, t6⟩
        have hOX := hOw.app [.cells [[iv h.r.id, iv h.r.cls, iv h.r.made, iv h.r.size, iv h.r.pk, bv true, iv (-1)]] 53]
        have hgX := hG.app [.cells [[iv h.r.id, iv h.r.cls, iv h.r.made, iv h.r.size, iv h.r.pk, bv true, iv (-1)]] 53]
        have hcX := get_new K (.cells [[iv h.r.id, iv h.r.cls, iv h.r.made, iv h.r.size, iv h.r.pk, bv true, iv (-1)]] 53)
        have hgK := (Grow.refl K).app [.cells [[iv h.r.id, iv h.r.cls, iv h.r.made, iv h.r.size, iv h.r.pk, bv true, iv (-1)]] 53]
        generalize K ++ [AObj.cells [[iv h.r.id, iv h.r.cls, iv h.r.made, iv h.r.size, iv h.r.pk, bv true, iv (-1)]] 53] = B at *
        have hbB := hgX.get hb
        have l3B := l3 B (hgX.get hR.raw.ht)
        by_cases hse : h.sent = -1
        · rw [if_pos hse] at l3B
          have hro := hds_succ hh
          rw [hsm, hse] at hro
          have hOR : OwnR H.length 53 7 56 B a (hds (S.L.take i)) := ⟨hOX, hds_seven _, by rw [hds_len, List.length_take]; omega⟩
          repeat' (first | refine spD (fun _ => ?_) (fun _ => ?_) | refine spF (fun _ => ?_) (fun _ => ?_) | (apply gT; (exact rfl)) | (apply off; (exact rfl); (exact rfl)) | (apply condT; (exact rfl)) | (apply condF; (exact rfl)) | ((first | (apply stp0; (exact rfl); (exact rfl)) | (apply stpN0; (exact rfl)) | apply gT | apply condT | ((first | apply bodyQ_d0 | apply bodyQ_d1 | apply bodyQ_d2 | apply bodyQ_d3 | apply bodyQ_d4); (exact .inr rfl); (rw [Try.results23]))); (first | (focus (simp only [go_sem, ↓reduceIte, simprocAttr, t17, t16, t15, t0, t3, t5, t6, hbB, l3B, hcX] <;> rfl)) | exact rfl); (first | (fail_if_success (show okD _ _ _ _ _ _ _ _ _)) | (first | exact okT | exact okN | exact okE rfl)); (first | (fail_if_success (show Bel _ _)) | (focus first | exact .val _ | (simp [oneOf, Bel_iff_tup, Bel_iff_agg, Bel_iff_rsl, Bel_iff_fn, Bel_iff_rptr, Bel_val]; done)))) | (apply stpApp; (exact rfl); (first | exact hOR); (iterate 2 (first | (focus (simp only [go_sem, ↓reduceIte, simprocAttr, t17, t16, t15, t0, t3, t5, t6, hbB, l3B, hcX] <;> rfl)) | rfl)); (first | rfl | (simp [AV.isCell]; done)); (first | rfl | (simp; done)); (first | exact ap39 | exact ap44 | exact ap46 | exact ap61 | exact ap63 | exact ap75 | exact ap86 | exact ap101 | exact ap102); (first | exact okT | exact okN | exact okE rfl)) | refine thenQ_n ?_ | refine thenQ_r ?_ | refine thenQ_e ?_ | refine blockQ_n ?_ | refine blockQ_r ?_ | refine blockQ_e ?_ | (apply blockQ_o; (exact rfl)) | refine Awp.seq ?_ | refine Awp.skip ?_ | refine Awp.block ?_ | refine reg (fun s => s == 6) ?_ | (apply drwE mixed (fun s => s == 6); (kernel_rfl)) | refine fin ?_ | refine Awp.ret ?_ | refine Awp.exit ?_ | ((first | (apply off; (exact rfl)) | apply condF); (first | (focus (simp only [go_sem, ↓reduceIte, simprocAttr, t17, t16, t15, t0, t3, t5, t6, hbB, l3B, hcX] <;> rfl)) | exact rfl)))
          all_goals first | contradiction | (exfalso; omega) | skip
          refine ⟨i + 1, ⟨hlt, ?_, ?_, ?_, ?_, (hOX.grow (Nat.le_refl _) hgX).app _, .msl B.length 0 ((hds (S.L.take i)).length + 1), ?_, ?_⟩, Nat.sub_lt_sub_left hlt (Nat.lt_succ_self i)⟩
          · (first | (focus (simp only [go_sem, ↓reduceIte, simprocAttr, wsucc hlt (show n ≤ maxLen by simp only [maxLen]; omega)]; first | done | rfl)) | rfl)
          · (first | (focus (simp only [go_sem, ↓reduceIte, simprocAttr, t16]; first | done | rfl)) | rfl)
          · (first | (focus (simp only [go_sem, ↓reduceIte, simprocAttr, t15]; first | done | rfl)) | rfl)
          · (first | (focus (simp only [go_sem, ↓reduceIte, simprocAttr, t0]; first | done | rfl)) | rfl)
          · (first | (focus (simp only [go_sem, ↓reduceIte, simprocAttr]; first | done | rfl)) | rfl)
          · rw [hro]; exact hOX.next hgX.len _ rfl rfl
        · rw [if_neg hse] at l3B
          have hro := hds_succ hh
          rw [hsm] at hro
          have hcY := (heldS hcX).1 (.cells [[iv h.r.id, iv h.r.cls, iv h.r.made, iv h.r.size, iv h.r.pk, bv true, iv h.sent]] 53)
          have hOY := hOw.hiSet hgK (Nat.le_refl _) (.cells [[iv h.r.id, iv h.r.cls, iv h.r.made, iv h.r.size, iv h.r.pk, bv true, iv h.sent]] 53)
          have hgY := hgX.set hG.len (.cells [[iv h.r.id, iv h.r.cls, iv h.r.made, iv h.r.size, iv h.r.pk, bv true, iv h.sent]] 53)
          have hOR : OwnR H.length 53 7 56 _ a (hds (S.L.take i)) := ⟨hOY, hds_seven _, by rw [hds_len, List.length_take]; omega⟩
          repeat' (first | refine spD (fun _ => ?_) (fun _ => ?_) | refine spF (fun _ => ?_) (fun _ => ?_) | (apply gT; (exact rfl)) | (apply off; (exact rfl); (exact rfl)) | (apply condT; (exact rfl)) | (apply condF; (exact rfl)) | ((first | (apply stp0; (exact rfl); (exact rfl)) | (apply stpN0; (exact rfl)) | apply gT | apply condT | ((first | apply bodyQ_d0 | apply bodyQ_d1 | apply bodyQ_d2 | apply bodyQ_d3 | apply bodyQ_d4); (exact .inr rfl); (rw [Try.results23]))); (first | (focus (simp only [go_sem, ↓reduceIte, simprocAttr, t17, t16, t15, t0, t3, t5, t6, hbB, l3B, hcX, hcY] <;> rfl)) | exact rfl); (first | (fail_if_success (show okD _ _ _ _ _ _ _ _ _)) | (first | exact okT | exact okN | exact okE rfl)); (first | (fail_if_success (show Bel _ _)) | (focus first | exact .val _ | (simp [oneOf, Bel_iff_tup, Bel_iff_agg, Bel_iff_rsl, Bel_iff_fn, Bel_iff_rptr, Bel_val]; done)))) | (apply stpApp; (exact rfl); (first | exact hOR); (iterate 2 (first | (focus (simp only [go_sem, ↓reduceIte, simprocAttr, t17, t16, t15, t0, t3, t5, t6, hbB, l3B, hcX, hcY] <;> rfl)) | rfl)); (first | rfl | (simp [AV.isCell]; done)); (first | rfl | (simp; done)); (first | exact ap39 | exact ap44 | exact ap46 | exact ap61 | exact ap63 | exact ap75 | exact ap86 | exact ap101 | exact ap102); (first | exact okT | exact okN | exact okE rfl)) | refine thenQ_n ?_ | refine thenQ_r ?_ | refine thenQ_e ?_ | refine blockQ_n ?_ | refine blockQ_r ?_ | refine blockQ_e ?_ | (apply blockQ_o; (exact rfl)) | refine Awp.seq ?_ | refine Awp.skip ?_ | refine Awp.block ?_ | refine reg (fun s => s == 6) ?_ | (apply drwE mixed (fun s => s == 6); (kernel_rfl)) | refine fin ?_ | refine Awp.ret ?_ | refine Awp.exit ?_ | ((first | (apply off; (exact rfl)) | apply condF); (first | (focus (simp only [go_sem, ↓reduceIte, simprocAttr, t17, t16, t15, t0, t3, t5, t6, hbB, l3B, hcX, hcY] <;> rfl)) | exact rfl)))
          all_goals first | contradiction | (exfalso; omega) | skip
          refine ⟨i + 1, ⟨hlt, ?_, ?_, ?_, ?_, (hOY.grow (Nat.le_refl _) hgY).app _, .msl B.length 0 ((hds (S.L.take i)).length + 1), ?_, ?_⟩, Nat.sub_lt_sub_left hlt (Nat.lt_succ_self i)⟩
          · (first | (focus (simp only [go_sem, ↓reduceIte, simprocAttr, wsucc hlt (show n ≤ maxLen by simp only [maxLen]; omega)]; first | done | rfl)) | rfl)
          · (first | (focus (simp only [go_sem, ↓reduceIte, simprocAttr, t16]; first | done | rfl)) | rfl)
          · (first | (focus (simp only [go_sem, ↓reduceIte, simprocAttr, t15]; first | done | rfl)) | rfl)
          · (first | (focus (simp only [go_sem, ↓reduceIte, simprocAttr, t0]; first | done | rfl)) | rfl)
          · (first | (focus (simp only [go_sem, ↓reduceIte, simprocAttr, List.length_set]; first | done | rfl)) | rfl)
          · rw [hro]; exact hOY.next hgY.len _ (List.length_set ..).symm rfl
      | false =>
        rw [hsm, if_neg (by simp)] at l2K
        simp only [hsm, Bool.false_eq_true, if_false] at l2
        repeat' ((fail_if_success (apply stopR (id := 8))); (fail_if_success (apply stopS (id := 8))); first | refine spD (fun _ => ?_) (fun _ => ?_) | refine spF (fun _ => ?_) (fun _ => ?_) | (apply gT; (exact rfl)) | (apply off; (exact rfl); (exact rfl)) | (apply condT; (exact rfl)) | (apply condF; (exact rfl)) | ((first | (apply stp0; (exact rfl); (exact rfl)) | (apply stpN0; (exact rfl)) | apply gT | apply condT | ((first | apply bodyQ_d0 | apply bodyQ_d1 | apply bodyQ_d2 | apply bodyQ_d3 | apply bodyQ_d4); (exact .inr rfl); (rw [Try.results23]))); (first | (focus (simp only [go_sem, ↓reduceIte, simprocAttr, t17, t16, t15, t0, hbK, hrK, hsK, hbX, l1, l2, l1K, l2K] <;> rfl)) | exact rfl); (first | (fail_if_success (show okD _ _ _ _ _ _ _ _ _)) | (first | exact trivial | exact ⟨fun _ => rfl, fun _ _ => rfl, fun h => Bool.noConfusion (show false = true from h)⟩ | (refine ⟨fun _ => rfl, fun _ _ => rfl, fun _ H2 hk => ?_⟩; have e := (hk (F.b) (by simp)).trans (hbK); have e2 := (hk (F.r) (by simp)).trans (hrK); have e3 := (hk (F.s) (by simp)).trans (hsK); unfold PerfTo; simp only [callOf]; (focus first | (simp only [go_sem, ↓reduceIte, simprocAttr, t17, t16, t15, t0, hbK, hrK, hsK, hbX, l1, l2, l1K, l2K, e, e2, e3]; done) | (simp only [go_sem, ↓reduceIte, simprocAttr, t17, t16, t15, t0, hbK, hrK, hsK, hbX, l1, l2, l1K, l2K, e, e2, e3]; rfl))) | (refine ⟨fun h => Bool.noConfusion (show true = false from h), fun b hQ => ?_, fun h => Bool.noConfusion (show false = true from h)⟩; rcases (by simpa [or_assoc] using hQ : b = F.b ∨ b = F.r ∨ b = F.s) with hb' | hb' | hb' <;> rw [hb'] <;> (first | (simp only [hbX, hbK]; done) | (simp only [hrX, hrK]; done) | (simp only [hsX, hsK]; done))))); (first | (fail_if_success (show Bel _ _)) | (focus first | exact .val _ | (simp [oneOf, Bel_iff_tup, Bel_iff_agg, Bel_iff_rsl, Bel_iff_fn, Bel_iff_rptr, Bel_val]; done)))) | refine thenQ_n ?_ | refine thenQ_r ?_ | refine thenQ_e ?_ | refine blockQ_n ?_ | refine blockQ_r ?_ | refine blockQ_e ?_ | (apply blockQ_o; (exact rfl)) | refine Awp.seq ?_ | refine Awp.skip ?_ | refine Awp.block ?_ | refine reg (fun s => s == 6) ?_ | (apply drwL mixed (fun s => s == 6) ⟨fun i => i == 14, fun i => i == 3 || i == 5 || i == 9 || i == 11, fun b => b == F.b || b == F.r || b == F.s⟩; (exact rfl); (kernel_rfl); (kernel_rfl); simp only [List.pop_toArray, List.dropLast_cons_cons, List.dropLast_singleton, List.map_cons, List.map_nil]) | refine fin ?_ | refine Awp.ret ?_ | refine Awp.exit ?_ | ((first | (apply off; (exact rfl)) | apply condF); (first | (focus (simp only [go_sem, ↓reduceIte, simprocAttr, t17, t16, t15, t0, hbK, hrK, hsK, hbX, l1, l2, l1K, l2K] <;> rfl)) | exact rfl)))
        all_goals first | contradiction | (exfalso; omega) | skip
        refine Awp.withT (fun T' => T' 17 = iv i ∧ T' 16 = iv n ∧ T' 15 = .msl o 0 n ∧ T' 0 = .mptr F.b 0 0 ∧ T' 3 = a ∧ T' 5 = iv h.r.id ∧ T' 6 = .mptr K.length 0 0) ⟨?_, ?_, ?_, ?_, ?_, ?_, ?_⟩ ?_
        · (first | (focus (simp only [go_sem, ↓reduceIte, simprocAttr, t17]; first | done | rfl)) | rfl)
        · (first | (focus (simp only [go_sem, ↓reduceIte, simprocAttr, t16]; first | done | rfl)) | rfl)
        · (first | (focus (simp only [go_sem, ↓reduceIte, simprocAttr, t15]; first | done | rfl)) | rfl)
        · (first | (focus (simp only [go_sem, ↓reduceIte, simprocAttr, t0]; first | done | rfl)) | rfl)
        · (first | (focus (simp only [go_sem, ↓reduceIte, simprocAttr, t3]; first | done | rfl)) | rfl)
        · (first | (focus (simp only [go_sem, ↓reduceIte, simprocAttr]; first | done | rfl)) | rfl)
        · (first | (focus (simp only [go_sem, ↓reduceIte, simprocAttr]; first | done | rfl)) | rfl)
        clear t17 t16 t15 t0 t3 T
        rintro T ⟨t17, t16, t15, t0, t3, t5, t6⟩
        have hOX := hOw.app [.cells [[iv h.r.id, iv h.r.cls, iv h.r.made, iv h.r.size, iv h.r.pk, bv false, iv (-1)]] 53]
        have hgX := hG.app [.cells [[iv h.r.id, iv h.r.cls, iv h.r.made, iv h.r.size, iv h.r.pk, bv false, iv (-1)]] 53]
        have hcX := get_new K (.cells [[iv h.r.id, iv h.r.cls, iv h.r.made, iv h.r.size, iv h.r.pk, bv false, iv (-1)]] 53)
        have hgK := (Grow.refl K).app [.cells [[iv h.r.id, iv h.r.cls, iv h.r.made, iv h.r.size, iv h.r.pk, bv false, iv (-1)]] 53]
        generalize K ++ [AObj.cells [[iv h.r.id, iv h.r.cls, iv h.r.made, iv h.r.size, iv h.r.pk, bv false, iv (-1)]] 53] = B at *
        have hbB := hgX.get hb
        have l3B := l3 B (hgX.get hR.raw.ht)
        by_cases hse : h.sent = -1
        · rw [if_pos hse] at l3B
          have hro := hds_succ hh
          rw [hsm, hse] at hro
          have hOR : OwnR H.length 53 7 56 B a (hds (S.L.take i)) := ⟨hOX, hds_seven _, by rw [hds_len, List.length_take]; omega⟩
          repeat' (first | refine spD (fun _ => ?_) (fun _ => ?_) | refine spF (fun _ => ?_) (fun _ => ?_) | (apply gT; (exact rfl)) | (apply off; (exact rfl); (exact rfl)) | (apply condT; (exact rfl)) | (apply condF; (exact rfl)) | ((first | (apply stp0; (exact rfl); (exact rfl)) | (apply stpN0; (exact rfl)) | apply gT | apply condT | ((first | apply bodyQ_d0 | apply bodyQ_d1 | apply bodyQ_d2 | apply bodyQ_d3 | apply bodyQ_d4); (exact .inr rfl); (rw [Try.results23]))); (first | (focus (simp only [go_sem, ↓reduceIte, simprocAttr, t17, t16, t15, t0, t3, t5, t6, hbB, l3B, hcX] <;> rfl)) | exact rfl); (first | (fail_if_success (show okD _ _ _ _ _ _ _ _ _)) | (first | exact okT | exact okN | exact okE rfl)); (first | (fail_if_success (show Bel _ _)) | (focus first | exact .val _ | (simp [oneOf, Bel_iff_tup, Bel_iff_agg, Bel_iff_rsl, Bel_iff_fn, Bel_iff_rptr, Bel_val]; done)))) | (apply stpApp; (exact rfl); (first | exact hOR); (iterate 2 (first | (focus (simp only [go_sem, ↓reduceIte, simprocAttr, t17, t16, t15, t0, t3, t5, t6, hbB, l3B, hcX] <;> rfl)) | rfl)); (first | rfl | (simp [AV.isCell]; done)); (first | rfl | (simp; done)); (first | exact ap39 | exact ap44 | exact ap46 | exact ap61 | exact ap63 | exact ap75 | exact ap86 | exact ap101 | exact ap102); (first | exact okT | exact okN | exact okE rfl)) | refine thenQ_n ?_ | refine thenQ_r ?_ | refine thenQ_e ?_ | refine blockQ_n ?_ | refine blockQ_r ?_ | refine blockQ_e ?_ | (apply blockQ_o; (exact rfl)) | refine Awp.seq ?_ | refine Awp.skip ?_ | refine Awp.block ?_ | refine reg (fun s => s == 6) ?_ | (apply drwE mixed (fun s => s == 6); (kernel_rfl)) | refine fin ?_ | refine Awp.ret ?_ | refine Awp.exit ?_ | ((first | (apply off; (exact rfl)) | apply condF); (first | (focus (simp only [go_sem, ↓reduceIte, simprocAttr, t17, t16, t15, t0, t3, t5, t6, hbB, l3B, hcX] <;> rfl)) | exact rfl)))
          all_goals first | contradiction | (exfalso; omega) | skip
          refine ⟨i + 1, ⟨hlt, ?_, ?_, ?_, ?_, (hOX.grow (Nat.le_refl _) hgX).app _, .msl B.length 0 ((hds (S.L.take i)).length + 1), ?_, ?_⟩, Nat.sub_lt_sub_left hlt (Nat.lt_succ_self i)⟩
          · (first | (focus (simp only [go_sem, ↓reduceIte, simprocAttr, wsucc hlt (show n ≤ maxLen by simp only [maxLen]; omega)]; first | done | rfl)) | rfl)
          · (first | (focus (simp only [go_sem, ↓reduceIte, simprocAttr, t16]; first | done | rfl)) | rfl)
          · (first | (focus (simp only [go_sem, ↓reduceIte, simprocAttr, t15]; first | done | rfl)) | rfl)
          · (first | (focus (simp only [go_sem, ↓reduceIte, simprocAttr, t0]; first | done | rfl)) | rfl)
          · (first | (focus (simp only [go_sem, ↓reduceIte, simprocAttr]; first | done | rfl)) | rfl)
          · rw [hro]; exact hOX.next hgX.len _ rfl rfl
        · rw [if_neg hse] at l3B
          have hro := hds_succ hh
          rw [hsm] at hro
          have hcY := (heldS hcX).1 (.cells [[iv h.r.id, iv h.r.cls, iv h.r.made, iv h.r.size, iv h.r.pk, bv false, iv h.sent]] 53)
          have hOY := hOw.hiSet hgK (Nat.le_refl _) (.cells [[iv h.r.id, iv h.r.cls, iv h.r.made, iv h.r.size, iv h.r.pk, bv false, iv h.sent]] 53)
          have hgY := hgX.set hG.len (.cells [[iv h.r.id, iv h.r.cls, iv h.r.made, iv h.r.size, iv h.r.pk, bv false, iv h.sent]] 53)
          have hOR : OwnR H.length 53 7 56 _ a (hds (S.L.take i)) := ⟨hOY, hds_seven _, by rw [hds_len, List.length_take]; omega⟩
          repeat' (first | refine spD (fun _ => ?_) (fun _ => ?_) | refine spF (fun _ => ?_) (fun _ => ?_) | (apply gT; (exact rfl)) | (apply off; (exact rfl); (exact rfl)) | (apply condT; (exact rfl)) | (apply condF; (exact rfl)) | ((first | (apply stp0; (exact rfl); (exact rfl)) | (apply stpN0; (exact rfl)) | apply gT | apply condT | ((first | apply bodyQ_d0 | apply bodyQ_d1 | apply bodyQ_d2 | apply bodyQ_d3 | apply bodyQ_d4); (exact .inr rfl); (rw [Try.results23]))); (first | (focus (simp only [go_sem, ↓reduceIte, simprocAttr, t17, t16, t15, t0, t3, t5, t6, hbB, l3B, hcX, hcY] <;> rfl)) | exact rfl); (first | (fail_if_success (show okD _ _ _ _ _ _ _ _ _)) | (first | exact okT | exact okN | exact okE rfl)); (first | (fail_if_success (show Bel _ _)) | (focus first | exact .val _ | (simp [oneOf, Bel_iff_tup, Bel_iff_agg, Bel_iff_rsl, Bel_iff_fn, Bel_iff_rptr, Bel_val]; done)))) | (apply stpApp; (exact rfl); (first | exact hOR); (iterate 2 (first | (focus (simp only [go_sem, ↓reduceIte, simprocAttr, t17, t16, t15, t0, t3, t5, t6, hbB, l3B, hcX, hcY] <;> rfl)) | rfl)); (first | rfl | (simp [AV.isCell]; done)); (first | rfl | (simp; done)); (first | exact ap39 | exact ap44 | exact ap46 | exact ap61 | exact ap63 | exact ap75 | exact ap86 | exact ap101 | exact ap102); (first | exact okT | exact okN | exact okE rfl)) | refine thenQ_n ?_ | refine thenQ_r ?_ | refine thenQ_e ?_ | refine blockQ_n ?_ | refine blockQ_r ?_ | refine blockQ_e ?_ | (apply blockQ_o; (exact rfl)) | refine Awp.seq ?_ | refine Awp.skip ?_ | refine Awp.block ?_ | refine reg (fun s => s == 6) ?_ | (apply drwE mixed (fun s => s == 6); (kernel_rfl)) | refine fin ?_ | refine Awp.ret ?_ | refine Awp.exit ?_ | ((first | (apply off; (exact rfl)) | apply condF); (first | (focus (simp only [go_sem, ↓reduceIte, simprocAttr, t17, t16, t15, t0, t3, t5, t6, hbB, l3B, hcX, hcY] <;> rfl)) | exact rfl)))
          all_goals first | contradiction | (exfalso; omega) | skip
          refine ⟨i + 1, ⟨hlt, ?_, ?_, ?_, ?_, (hOY.grow (Nat.le_refl _) hgY).app _, .msl B.length 0 ((hds (S.L.take i)).length + 1), ?_, ?_⟩, Nat.sub_lt_sub_left hlt (Nat.lt_succ_self i)⟩
          · (first | (focus (simp only [go_sem, ↓reduceIte, simprocAttr, wsucc hlt (show n ≤ maxLen by simp only [maxLen]; omega)]; first | done | rfl)) | rfl)
          · (first | (focus (simp only [go_sem, ↓reduceIte, simprocAttr, t16]; first | done | rfl)) | rfl)
          · (first | (focus (simp only [go_sem, ↓reduceIte, simprocAttr, t15]; first | done | rfl)) | rfl)
          · (first | (focus (simp only [go_sem, ↓reduceIte, simprocAttr, t0]; first | done | rfl)) | rfl)
          · (first | (focus (simp only [go_sem, ↓reduceIte, simprocAttr, List.length_set]; first | done | rfl)) | rfl)
          · rw [hro]; exact hOY.next hgY.len _ (List.length_set ..).symm rfl
    · have hin : i = n := Nat.le_antisymm hi (Nat.not_lt.1 hlt)
      subst hin
      rw [List.take_of_length_le (by omega)] at hOw
      repeat' (first | refine spD (fun _ => ?_) (fun _ => ?_) | refine spF (fun _ => ?_) (fun _ => ?_) | (apply gT; (exact rfl)) | (apply off; (exact rfl); (exact rfl)) | (apply condT; (exact rfl)) | (apply condF; (exact rfl)) | ((first | (apply stp0; (exact rfl); (exact rfl)) | (apply stpN0; (exact rfl)) | apply gT | apply condT); (first | (focus (simp only [go_sem, ↓reduceIte, simprocAttr, Int.lt_irrefl, t17, t16, t3] <;> rfl)) | exact rfl); (first | (fail_if_success (show okD _ _ _ _ _ _ _ _ _)) | (first | exact okT | exact okN | exact okE rfl))) | refine thenQ_n ?_ | refine thenQ_r ?_ | refine thenQ_e ?_ | refine blockQ_n ?_ | refine blockQ_r ?_ | refine blockQ_e ?_ | (apply blockQ_o; (exact rfl)) | refine Awp.seq ?_ | refine Awp.skip ?_ | refine Awp.block ?_ | refine reg (fun s => s == 6) ?_ | (apply drwE mixed (fun s => s == 6); (kernel_rfl)) | refine fin ?_ | refine Awp.ret ?_ | refine Awp.exit ?_ | ((first | (apply off; (exact rfl)) | apply condF); (first | (focus (simp only [go_sem, ↓reduceIte, simprocAttr, Int.lt_irrefl, t17, t16, t3] <;> rfl)) | exact rfl)))
      all_goals first | contradiction | (exfalso; omega) | skip
      exact bodyQ_own (.inr rfl) (by rw [Try.results23]; simp only [go_sem, ↓reduceIte, simprocAttr, t3]) hG hOw (plainHds _)

end Go.Proofs.Ytlhchnnfgppneaa.Ab
