/- The law BufferPlays: a round that sends, and one that copies. The law BufferPlays. -/
import Derived.Test.YtlhchnnfgppneaaYP
namespace Go.Proofs.Ytlhchnnfgppneaa.Ab
open Go Go.RowKit Go.Proofs
set_option linter.unusedSimpArgs false
set_option linter.unusedVariables false
attribute [local irreducible] Awp wpO thenQ blockQ bodyQ ACalls stepA

theorem Rq.ownK {K K2 : Hp} {q : Nat} {a z : AV} {c t c' t' : Int} {L L' : List Hd} {es : List (List AV)} (h2 : Rq K2 q a c' t' L') (h : Rq K q a c t L) (hO : Own K2.length 2 K z es) : Rq (ownK K z) q a c t L :=
  ⟨by rw [ownK_low hO (List.getElem?_eq_some_iff.1 h2.hb).1]; exact h.hb, h.row.get fun o n v e hb => by
    obtain ⟨v', hv'⟩ := h2.row.blk e
    rw [ownK_low hO (List.getElem?_eq_some_iff.1 hv').1]; exact hb⟩

set_option maxRecDepth 8000 in
set_option maxHeartbeats 8000000 in
theorem round1 {J : Hp} {l : List Ax} {ex : Bool} {q i x : Nat} {p : Ax} {F : Ft} {w : Rw} {S : Bf} {a : AV} {err : Int} {T : Env} (hT : Hd14 l ex q i x p F err T) (hB : Both J F w S q a) (hx : J[x]? = some (.cells [p.cs] 65)) (hl : S.L.length ≤ i) (hi : i < 30) (h0 : 0 ≤ S.time)
    (hk8 : 0 ≤ p.kind ∧ p.kind ≤ 255) (hk : p.kind.tmod 4 = 1) : Awp Try.prog 172 none (hdC (tl (tl (inC (hdC (tl (inC (inC (tl (hdC (tl (tl (tl (tl (tl (tl (Try.f7.body.getD .skip))))))))))))))))) T J (Q30 l ex q i) := by
  obtain ⟨t1, t5, t6, t7, t8, t9, t10, t11, t12⟩ := hT
  have hkw := (kinds hk8.1 hk8.2).2
  rw [hk] at hkw
  simp only [Ax.cs, u8v] at hx
  unfold Try.f7
  simp only [tl, hdC, inC, Option.getD_some]
  repeat' (first | refine spD (fun _ => ?_) (fun _ => ?_) | refine spF (fun _ => ?_) (fun _ => ?_) | (apply gT; (exact rfl)) | (apply off; (exact rfl); (exact rfl)) | (apply condT; (exact rfl)) | (apply condF; (exact rfl)) | ((first | (apply stp0; (exact rfl); (exact rfl)) | (apply stpN0; (exact rfl)) | apply gT | apply condT | ((first | apply bodyQ_d0 | apply bodyQ_d1 | apply bodyQ_d2 | apply bodyQ_d3 | apply bodyQ_d4); (exact .inr rfl); (rw [Try.results7]))); (first | (focus (simp only [go_sem, ↓reduceIte, simprocAttr, t1, t5, t6, t7, t8, t9, t10, t11, t12, hx, hk, hkw] <;> rfl)) | exact rfl); (first | (fail_if_success (show okD _ _ _ _ _ _ _ _ _)) | (first | exact okT | exact okN | exact okE rfl)); (first | (fail_if_success (show Bel _ _)) | (focus first | exact .val _ | (simp [oneOf, Bel_iff_tup, Bel_iff_agg, Bel_iff_rsl, Bel_iff_fn, Bel_iff_rptr, Bel_val]; done)))) | refine thenQ_n ?_ | refine thenQ_r ?_ | refine thenQ_e ?_ | refine blockQ_n ?_ | refine blockQ_r ?_ | refine blockQ_e ?_ | (apply blockQ_o; (exact rfl)) | refine Awp.seq ?_ | refine Awp.skip ?_ | refine Awp.block ?_ | refine reg (fun s => s == 10) ?_ | (apply drwE mixed (fun s => s == 10); (kernel_rfl)) | refine fin ?_ | refine Awp.ret ?_ | refine Awp.exit ?_ | ((first | (apply off; (exact rfl)) | apply condF); (first | (focus (simp only [go_sem, ↓reduceIte, simprocAttr, t1, t5, t6, t7, t8, t9, t10, t11, t12, hx, hk, hkw] <;> rfl)) | exact rfl)))
  all_goals first | contradiction | (exfalso; omega) | skip
  by_cases hbad : badB S.time p.bytes p.t p.wait
  · have hA := burstBad hB.rep.raw p.bytes p.t p.wait (by rw [hB.rep.time]; exact hbad)
    refine cal rfl rfl rfl ?_ (show ACallV Try.prog (.fn (.func 29) []) [.mptr F.b 0 0, iv p.bytes, iv p.t, iv p.wait] J _ from hA) ?_
    · (first | (focus (simp only [go_sem, ↓reduceIte, simprocAttr, t5]; first | done | rfl)) | rfl)
    rintro v1 K1 ⟨rfl, hG1⟩
    have hB1 := hB.grow hG1
    have hx1 := hG1.get hx
    have hrA := rburstBad hB1.rq p.bytes p.t p.wait hbad
    repeat' (first | refine spD (fun _ => ?_) (fun _ => ?_) | refine spF (fun _ => ?_) (fun _ => ?_) | (apply gT; (exact rfl)) | (apply off; (exact rfl); (exact rfl)) | (apply condT; (exact rfl)) | (apply condF; (exact rfl)) | ((first | (apply stp0; (exact rfl); (exact rfl)) | (apply stpN0; (exact rfl)) | apply gT | apply condT | ((first | apply bodyQ_d0 | apply bodyQ_d1 | apply bodyQ_d2 | apply bodyQ_d3 | apply bodyQ_d4); (exact .inr rfl); (rw [Try.results7]))); (first | (focus (simp only [go_sem, ↓reduceIte, simprocAttr, t1, t5, t7, t9, t10, hx1] <;> rfl)) | exact rfl); (first | (fail_if_success (show okD _ _ _ _ _ _ _ _ _)) | (first | exact okT | exact okN | exact okE rfl)); (first | (fail_if_success (show Bel _ _)) | (focus first | exact .val _ | (simp [oneOf, Bel_iff_tup, Bel_iff_agg, Bel_iff_rsl, Bel_iff_fn, Bel_iff_rptr, Bel_val]; done)))) | refine thenQ_n ?_ | refine thenQ_r ?_ | refine thenQ_e ?_ | refine blockQ_n ?_ | refine blockQ_r ?_ | refine blockQ_e ?_ | (apply blockQ_o; (exact rfl)) | refine Awp.seq ?_ | refine Awp.skip ?_ | refine Awp.block ?_ | refine reg (fun s => s == 10) ?_ | (apply drwE mixed (fun s => s == 10); (kernel_rfl)) | refine fin ?_ | refine Awp.ret ?_ | refine Awp.exit ?_ | ((first | (apply off; (exact rfl)) | apply condF); (first | (focus (simp only [go_sem, ↓reduceIte, simprocAttr, t1, t5, t7, t9, t10, hx1] <;> rfl)) | exact rfl)))
    all_goals first | contradiction | (exfalso; omega) | skip
    refine cal rfl rfl rfl ?_ (show ACallV Try.prog (.fn (.func 32) []) [.mptr q 0 0, iv p.bytes, iv p.t, iv p.wait] K1 _ from hrA) ?_
    · (first | (focus (simp only [go_sem, ↓reduceIte, simprocAttr, t7]; first | done | rfl)) | rfl)
    rintro v1 K2 ⟨rfl, hG2⟩
    have hB2 := hB1.grow hG2
    repeat' (first | refine spD (fun _ => ?_) (fun _ => ?_) | refine spF (fun _ => ?_) (fun _ => ?_) | (apply gT; (exact rfl)) | (apply off; (exact rfl); (exact rfl)) | (apply condT; (exact rfl)) | (apply condF; (exact rfl)) | ((first | (apply stp0; (exact rfl); (exact rfl)) | (apply stpN0; (exact rfl)) | apply gT | apply condT | ((first | apply bodyQ_d0 | apply bodyQ_d1 | apply bodyQ_d2 | apply bodyQ_d3 | apply bodyQ_d4); (exact .inr rfl); (rw [Try.results7]))); (first | (focus (simp only [go_sem, ↓reduceIte, simprocAttr, t1, t5, t6, t7, t8, t9] <;> rfl)) | exact rfl); (first | (fail_if_success (show okD _ _ _ _ _ _ _ _ _)) | (first | exact okT | exact okN | exact okE rfl)); (first | (fail_if_success (show Bel _ _)) | (focus first | exact .val _ | (simp [oneOf, Bel_iff_tup, Bel_iff_agg, Bel_iff_rsl, Bel_iff_fn, Bel_iff_rptr, Bel_val]; done)))) | refine thenQ_n ?_ | refine thenQ_r ?_ | refine thenQ_e ?_ | refine blockQ_n ?_ | refine blockQ_r ?_ | refine blockQ_e ?_ | (apply blockQ_o; (exact rfl)) | refine Awp.seq ?_ | refine Awp.skip ?_ | refine Awp.block ?_ | refine reg (fun s => s == 10) ?_ | (apply drwE mixed (fun s => s == 10); (kernel_rfl)) | refine fin ?_ | refine Awp.ret ?_ | refine Awp.exit ?_ | ((first | (apply off; (exact rfl)) | apply condF); (first | (focus (simp only [go_sem, ↓reduceIte, simprocAttr, t1, t5, t6, t7, t8, t9] <;> rfl)) | exact rfl)))
    all_goals first | contradiction | (exfalso; omega) | skip
    refine ⟨rfl, ⟨?_, ?_, ?_⟩, F, w, S, a, [], 3, nilS, nilS, K2, K2, ?_, ?_, ?_, ?_, ?_, .own (lo := 0) .nil, .own (lo := 0) .nil, hB2, by omega, h0, by simp⟩
    · (first | (focus (simp only [go_sem, ↓reduceIte, simprocAttr, t1]; first | done | rfl)) | rfl)
    · (first | (focus (simp only [go_sem, ↓reduceIte, simprocAttr, t7]; first | done | rfl)) | rfl)
    · (first | (focus (simp only [go_sem, ↓reduceIte, simprocAttr, t9]; first | done | rfl)) | rfl)
    · (first | (focus (simp only [go_sem, ↓reduceIte, simprocAttr, t5]; first | done | rfl)) | rfl)
    · (first | (focus (simp only [go_sem, ↓reduceIte, simprocAttr]; first | done | rfl)) | rfl)
    · (first | (focus (simp only [go_sem, ↓reduceIte, simprocAttr]; first | done | rfl)) | rfl)
    · (first | (focus (simp only [go_sem, ↓reduceIte, simprocAttr]; first | done | rfl)) | rfl)
    · (first | (focus (simp only [go_sem, ↓reduceIte, simprocAttr]; first | done | rfl)) | rfl)
  · unfold badB at hbad
    have hA := Burst_ok hB.rep hB.good p.bytes p.t p.wait (by omega) h0 (by omega) (by omega)
    refine cal rfl rfl rfl ?_ (show ACallV Try.prog (.fn (.func 29) []) [.mptr F.b 0 0, iv p.bytes, iv p.t, iv p.wait] J _ from hA) ?_
    · (first | (focus (simp only [go_sem, ↓reduceIte, simprocAttr, t5]; first | done | rfl)) | rfl)
    rintro v1 K1 ⟨a2, w2, rfl, hOt, hR1, hF1, hw2⟩
    repeat' ((fail_if_success (apply stopR (id := 24))); (fail_if_success (apply stopS (id := 24))); first | refine spD (fun _ => ?_) (fun _ => ?_) | refine spF (fun _ => ?_) (fun _ => ?_) | (apply gT; (exact rfl)) | (apply off; (exact rfl); (exact rfl)) | (apply condT; (exact rfl)) | (apply condF; (exact rfl)) | ((first | (apply stp0; (exact rfl); (exact rfl)) | (apply stpN0; (exact rfl)) | apply gT | apply condT | ((first | apply bodyQ_d0 | apply bodyQ_d1 | apply bodyQ_d2 | apply bodyQ_d3 | apply bodyQ_d4); (exact .inr rfl); (rw [Try.results7]))); (first | (focus (simp only [go_sem, ↓reduceIte, simprocAttr, t1, t5, t7, t9, t10] <;> rfl)) | exact rfl); (first | (fail_if_success (show okD _ _ _ _ _ _ _ _ _)) | (first | exact okT | exact okN | exact okE rfl)); (first | (fail_if_success (show Bel _ _)) | (focus first | exact .val _ | (simp [oneOf, Bel_iff_tup, Bel_iff_agg, Bel_iff_rsl, Bel_iff_fn, Bel_iff_rptr, Bel_val]; done)))) | refine thenQ_n ?_ | refine thenQ_r ?_ | refine thenQ_e ?_ | refine blockQ_n ?_ | refine blockQ_r ?_ | refine blockQ_e ?_ | (apply blockQ_o; (exact rfl)) | refine Awp.seq ?_ | refine Awp.skip ?_ | refine Awp.block ?_ | refine reg (fun s => s == 10) ?_ | (apply drwE mixed (fun s => s == 10); (kernel_rfl)) | refine fin ?_ | refine Awp.ret ?_ | refine Awp.exit ?_ | ((first | (apply off; (exact rfl)) | apply condF); (first | (focus (simp only [go_sem, ↓reduceIte, simprocAttr, t1, t5, t7, t9, t10] <;> rfl)) | exact rfl)))
    all_goals first | contradiction | (exfalso; omega) | skip
    refine Awp.withT (fun T' => T' 1 = .rsl (axs l) ex ∧ T' 5 = .mptr F.b 0 0 ∧ T' 6 = iv 0 ∧ T' 7 = .mptr q 0 0 ∧ T' 9 = iv i ∧ T' 10 = .mptr x 0 0 ∧ T' 11 = a2) ⟨?_, ?_, ?_, ?_, ?_, ?_, ?_⟩ ?_
    · (first | (focus (simp only [go_sem, ↓reduceIte, simprocAttr, t1]; first | done | rfl)) | rfl)
    · (first | (focus (simp only [go_sem, ↓reduceIte, simprocAttr, t5]; first | done | rfl)) | rfl)
    · (first | (focus (simp only [go_sem, ↓reduceIte, simprocAttr]; first | done | rfl)) | rfl)
    · (first | (focus (simp only [go_sem, ↓reduceIte, simprocAttr, t7]; first | done | rfl)) | rfl)
    · (first | (focus (simp only [go_sem, ↓reduceIte, simprocAttr, t9]; first | done | rfl)) | rfl)
    · (first | (focus (simp only [go_sem, ↓reduceIte, simprocAttr, t10]; first | done | rfl)) | rfl)
    · (first | (focus (simp only [go_sem, ↓reduceIte, simprocAttr]; first | done | rfl)) | rfl)
    clear t1 t5 t6 t7 t8 t9 t10 t11 t12 T
    rintro T ⟨t1, t5, t6, t7, t9, t10, t11⟩
    refine Awp.frzOwn 11 hOt.own t11 ?_
    refine Awp.withT (fun T' => T' 1 = .rsl (axs l) ex ∧ T' 5 = .mptr F.b 0 0 ∧ T' 6 = iv 0 ∧ T' 7 = .mptr q 0 0 ∧ T' 9 = iv i ∧ T' 10 = .mptr x 0 0 ∧ T' 11 = .rsl (ints (bst p.t p.wait S.L p.bytes).2) false) ⟨?_, ?_, ?_, ?_, ?_, ?_, ?_⟩ ?_
    · (first | (focus (simp only [go_sem, ↓reduceIte, simprocAttr, t1]; first | done | rfl)) | rfl)
    · (first | (focus (simp only [go_sem, ↓reduceIte, simprocAttr, t5]; first | done | rfl)) | rfl)
    · (first | (focus (simp only [go_sem, ↓reduceIte, simprocAttr, t6]; first | done | rfl)) | rfl)
    · (first | (focus (simp only [go_sem, ↓reduceIte, simprocAttr, t7]; first | done | rfl)) | rfl)
    · (first | (focus (simp only [go_sem, ↓reduceIte, simprocAttr, t9]; first | done | rfl)) | rfl)
    · (first | (focus (simp only [go_sem, ↓reduceIte, simprocAttr, t10]; first | done | rfl)) | rfl)
    · (first | (focus (simp only [go_sem, ↓reduceIte, simprocAttr]; first | done | rfl)) | rfl)
    clear t1 t5 t6 t7 t9 t10 t11 T
    rintro T ⟨t1, t5, t6, t7, t9, t10, t11⟩
    have hR2 := hB.rep.outA hR1 hw2 hOt
    have hFO := hF1.o (w := w) |>.ownA hOt.own
    have hq2 := hB.rq.prog hB.rep hFO
    have hx2 := hFO.keeps hB.rep hx (fun cs e => by cases e) (fun es e => by cases e) (fun cs e => by cases e)
    have hg2 := hB.good.mark p.t (bst p.t p.wait S.L p.bytes).2
    generalize Go.Proofs.Ytlhchnnfgppneaa.Ab.ownK K1 a2 = K2 at *
    have hlen := hB.good.len
    have hrA := rBurst_ok hq2 hB.good.nd hB.good.ok hlen p.bytes p.t p.wait (by omega) h0 (by omega) (by omega)
    repeat' (first | refine spD (fun _ => ?_) (fun _ => ?_) | refine spF (fun _ => ?_) (fun _ => ?_) | (apply gT; (exact rfl)) | (apply off; (exact rfl); (exact rfl)) | (apply condT; (exact rfl)) | (apply condF; (exact rfl)) | ((first | (apply stp0; (exact rfl); (exact rfl)) | (apply stpN0; (exact rfl)) | apply gT | apply condT | ((first | apply bodyQ_d0 | apply bodyQ_d1 | apply bodyQ_d2 | apply bodyQ_d3 | apply bodyQ_d4); (exact .inr rfl); (rw [Try.results7]))); (first | (focus (simp only [go_sem, ↓reduceIte, simprocAttr, t1, t5, t7, t9, t10, hx2] <;> rfl)) | exact rfl); (first | (fail_if_success (show okD _ _ _ _ _ _ _ _ _)) | (first | exact okT | exact okN | exact okE rfl)); (first | (fail_if_success (show Bel _ _)) | (focus first | exact .val _ | (simp [oneOf, Bel_iff_tup, Bel_iff_agg, Bel_iff_rsl, Bel_iff_fn, Bel_iff_rptr, Bel_val]; done)))) | refine thenQ_n ?_ | refine thenQ_r ?_ | refine thenQ_e ?_ | refine blockQ_n ?_ | refine blockQ_r ?_ | refine blockQ_e ?_ | (apply blockQ_o; (exact rfl)) | refine Awp.seq ?_ | refine Awp.skip ?_ | refine Awp.block ?_ | refine reg (fun s => s == 10) ?_ | (apply drwE mixed (fun s => s == 10); (kernel_rfl)) | refine fin ?_ | refine Awp.ret ?_ | refine Awp.exit ?_ | ((first | (apply off; (exact rfl)) | apply condF); (first | (focus (simp only [go_sem, ↓reduceIte, simprocAttr, t1, t5, t7, t9, t10, hx2] <;> rfl)) | exact rfl)))
    all_goals first | contradiction | (exfalso; omega) | skip
    refine cal rfl rfl rfl ?_ (show ACallV Try.prog (.fn (.func 32) []) [.mptr q 0 0, iv p.bytes, iv p.t, iv p.wait] K2 _ from hrA) ?_
    · (first | (focus (simp only [go_sem, ↓reduceIte, simprocAttr, t7]; first | done | rfl)) | rfl)
    rintro v1 K3 ⟨z, rfl, hOz, hq3, hl3, ho3⟩
    have hF3 : FrR q a K2 (Go.Proofs.Ytlhchnnfgppneaa.Ab.ownK K3 z) := ⟨by rw [ownK_len]; exact hl3, fun j hj e1 e2 => by rw [ownK_low hOz.own hj]; exact ho3 j hj e1 e2⟩
    have hR3 := hR2.ref hq2 hF3
    have hB3 : Both (Go.Proofs.Ytlhchnnfgppneaa.Ab.ownK K3 z) F w2 (S.mark p.t (bst p.t p.wait S.L p.bytes).2) q a := ⟨hR3, hg2, hq2.ownK hq3 hOz.own⟩
    repeat' (first | refine spD (fun _ => ?_) (fun _ => ?_) | refine spF (fun _ => ?_) (fun _ => ?_) | (apply gT; (exact rfl)) | (apply off; (exact rfl); (exact rfl)) | (apply condT; (exact rfl)) | (apply condF; (exact rfl)) | ((first | (apply stp0; (exact rfl); (exact rfl)) | (apply stpN0; (exact rfl)) | apply gT | apply condT | ((first | apply bodyQ_d0 | apply bodyQ_d1 | apply bodyQ_d2 | apply bodyQ_d3 | apply bodyQ_d4); (exact .inr rfl); (rw [Try.results7]))); (first | (focus (simp only [go_sem, ↓reduceIte, simprocAttr, t1, t5, t6, t7, t9, t11] <;> rfl)) | exact rfl); (first | (fail_if_success (show okD _ _ _ _ _ _ _ _ _)) | (first | exact okT | exact okN | exact okE rfl)); (first | (fail_if_success (show Bel _ _)) | (focus first | exact .val _ | (simp [oneOf, Bel_iff_tup, Bel_iff_agg, Bel_iff_rsl, Bel_iff_fn, Bel_iff_rptr, Bel_val]; done)))) | refine thenQ_n ?_ | refine thenQ_r ?_ | refine thenQ_e ?_ | refine blockQ_n ?_ | refine blockQ_r ?_ | refine blockQ_e ?_ | (apply blockQ_o; (exact rfl)) | refine Awp.seq ?_ | refine Awp.skip ?_ | refine Awp.block ?_ | refine reg (fun s => s == 10) ?_ | (apply drwE mixed (fun s => s == 10); (kernel_rfl)) | refine fin ?_ | refine Awp.ret ?_ | refine Awp.exit ?_ | ((first | (apply off; (exact rfl)) | apply condF); (first | (focus (simp only [go_sem, ↓reduceIte, simprocAttr, t1, t5, t6, t7, t9, t11] <;> rfl)) | exact rfl)))
    all_goals first | contradiction | (exfalso; omega) | skip
    refine ⟨rfl, ⟨?_, ?_, ?_⟩, F, w2, _, a, (bst p.t p.wait S.L p.bytes).2, 0, _, z, K3, _, ?_, ?_, ?_, ?_, ?_, .fix _, .own hOz.own, hB3, ?_, ?_, ?_⟩
    · (first | (focus (simp only [go_sem, ↓reduceIte, simprocAttr, t1]; first | done | rfl)) | rfl)
    · (first | (focus (simp only [go_sem, ↓reduceIte, simprocAttr, t7]; first | done | rfl)) | rfl)
    · (first | (focus (simp only [go_sem, ↓reduceIte, simprocAttr, t9]; first | done | rfl)) | rfl)
    · (first | (focus (simp only [go_sem, ↓reduceIte, simprocAttr, t5]; first | done | rfl)) | rfl)
    · (first | (focus (simp only [go_sem, ↓reduceIte, simprocAttr, t6]; first | done | rfl)) | rfl)
    · (first | (focus (simp only [go_sem, ↓reduceIte, simprocAttr]; first | done | rfl)) | rfl)
    · (first | (focus (simp only [go_sem, ↓reduceIte, simprocAttr, t11]; first | done | rfl)) | rfl)
    · (first | (focus (simp only [go_sem, ↓reduceIte, simprocAttr]; first | done | rfl)) | rfl)
    · show (S.L.map _).length ≤ i + 1; rw [List.length_map]; omega
    · show 0 ≤ p.t; omega
    · have := bst_len (t := p.t) (wt := p.wait) S.L (p.bytes, []); simp only [List.length_nil] at this; show (bst p.t p.wait S.L p.bytes).2.length ≤ 300; unfold bst; omega

theorem Rep.away {K K' : Hp} {F : Ft} {w : Rw} {S : Bf} {n : Nat} (h : Rep K F w S) (hb : n ≤ F.b) (hr : n ≤ F.r) (hs : n ≤ F.s) (ht : n ≤ F.t) (ho : ∀ j m, w.ord = .msl j 0 m → n ≤ j) (hk : ∀ j, n ≤ j → j < K.length → K'[j]? = K[j]?) : Rep K' F w S := by
  obtain ⟨l1, l2, l3, l4⟩ := h.raw.lt
  refine ⟨⟨?_, ?_, ?_, ?_, h.raw.rs, h.raw.rt, h.raw.st⟩, h.cap, h.used, h.time, h.ord.get fun o m v e hv => ?_, h.mr, h.ms, h.mt⟩
  · rw [hk _ hb l1]; exact h.raw.hb
  · rw [hk _ hr l2]; exact h.raw.hr
  · rw [hk _ hs l3]; exact h.raw.hs
  · rw [hk _ ht l4]; exact h.raw.ht
  · rw [hk _ (ho _ _ e) (List.getElem?_eq_some_iff.1 hv).1]; exact hv

set_option maxRecDepth 8000 in
set_option maxHeartbeats 8000000 in
theorem round3 {J : Hp} {l : List Ax} {ex : Bool} {q i x : Nat} {p : Ax} {F : Ft} {w : Rw} {S : Bf} {a : AV} {err : Int} {T : Env} (hT : Hd14 l ex q i x p F err T) (hB : Both J F w S q a) (hx : J[x]? = some (.cells [p.cs] 65)) (hl : S.L.length ≤ i) (hi : i < 30) (h0 : 0 ≤ S.time)
    (hk8 : 0 ≤ p.kind ∧ p.kind ≤ 255) (hk : p.kind.tmod 4 = 3) : Awp Try.prog 172 none (hdC (tl (tl (inC (hdC (tl (inC (inC (tl (hdC (tl (tl (tl (tl (tl (tl (Try.f7.body.getD .skip))))))))))))))))) T J (Q30 l ex q i) := by
  obtain ⟨t1, t5, t6, t7, t8, t9, t10, t11, t12⟩ := hT
  have hkw := (kinds hk8.1 hk8.2).2
  rw [hk] at hkw
  simp only [Ax.cs, u8v] at hx
  have hcp := Copy_ok hB.rep hB.good
  unfold Try.f7
  simp only [tl, hdC, inC, Option.getD_some]
  repeat' (first | refine spD (fun _ => ?_) (fun _ => ?_) | refine spF (fun _ => ?_) (fun _ => ?_) | (apply gT; (exact rfl)) | (apply off; (exact rfl); (exact rfl)) | (apply condT; (exact rfl)) | (apply condF; (exact rfl)) | ((first | (apply stp0; (exact rfl); (exact rfl)) | (apply stpN0; (exact rfl)) | apply gT | apply condT | ((first | apply bodyQ_d0 | apply bodyQ_d1 | apply bodyQ_d2 | apply bodyQ_d3 | apply bodyQ_d4); (exact .inr rfl); (rw [Try.results7]))); (first | (focus (simp only [go_sem, ↓reduceIte, simprocAttr, t1, t5, t6, t7, t8, t9, t10, t11, t12, hx, hk, hkw] <;> rfl)) | exact rfl); (first | (fail_if_success (show okD _ _ _ _ _ _ _ _ _)) | (first | exact okT | exact okN | exact okE rfl)); (first | (fail_if_success (show Bel _ _)) | (focus first | exact .val _ | (simp [oneOf, Bel_iff_tup, Bel_iff_agg, Bel_iff_rsl, Bel_iff_fn, Bel_iff_rptr, Bel_val]; done)))) | refine thenQ_n ?_ | refine thenQ_r ?_ | refine thenQ_e ?_ | refine blockQ_n ?_ | refine blockQ_r ?_ | refine blockQ_e ?_ | (apply blockQ_o; (exact rfl)) | refine Awp.seq ?_ | refine Awp.skip ?_ | refine Awp.block ?_ | refine reg (fun s => s == 10) ?_ | (apply drwE mixed (fun s => s == 10); (kernel_rfl)) | refine fin ?_ | refine Awp.ret ?_ | refine Awp.exit ?_ | ((first | (apply off; (exact rfl)) | apply condF); (first | (focus (simp only [go_sem, ↓reduceIte, simprocAttr, t1, t5, t6, t7, t8, t9, t10, t11, t12, hx, hk, hkw] <;> rfl)) | exact rfl)))
  all_goals first | contradiction | (exfalso; omega) | skip
  refine cal rfl rfl rfl ?_ (show ACallV Try.prog (.fn (.func 35) []) [.mptr F.b 0 0] J _ from hcp) ?_
  · (first | (focus (simp only [go_sem, ↓reduceIte, simprocAttr, t5]; first | done | rfl)) | rfl)
  rintro v1 K1 ⟨F', w', rfl, hC⟩
  have hR1 := hB.rep.grow hC.gr
  have hx1 := hC.gr.get hx
  have hq1 := hB.rq.grow hC.gr
  have hput := Put_ok hR1 hB.good (by omega) p.r
  simp only [Item.cs] at hput
  repeat' (first | refine spD (fun _ => ?_) (fun _ => ?_) | refine spF (fun _ => ?_) (fun _ => ?_) | (apply gT; (exact rfl)) | (apply off; (exact rfl); (exact rfl)) | (apply condT; (exact rfl)) | (apply condF; (exact rfl)) | ((first | (apply stp0; (exact rfl); (exact rfl)) | (apply stpN0; (exact rfl)) | apply gT | apply condT | ((first | apply bodyQ_d0 | apply bodyQ_d1 | apply bodyQ_d2 | apply bodyQ_d3 | apply bodyQ_d4); (exact .inr rfl); (rw [Try.results7]))); (first | (focus (simp only [go_sem, ↓reduceIte, simprocAttr, t1, t5, t7, t9, t10, hx1] <;> rfl)) | exact rfl); (first | (fail_if_success (show okD _ _ _ _ _ _ _ _ _)) | (first | exact okT | exact okN | exact okE rfl)); (first | (fail_if_success (show Bel _ _)) | (focus first | exact .val _ | (simp [oneOf, Bel_iff_tup, Bel_iff_agg, Bel_iff_rsl, Bel_iff_fn, Bel_iff_rptr, Bel_val]; done)))) | refine thenQ_n ?_ | refine thenQ_r ?_ | refine thenQ_e ?_ | refine blockQ_n ?_ | refine blockQ_r ?_ | refine blockQ_e ?_ | (apply blockQ_o; (exact rfl)) | refine Awp.seq ?_ | refine Awp.skip ?_ | refine Awp.block ?_ | refine reg (fun s => s == 10) ?_ | (apply drwE mixed (fun s => s == 10); (kernel_rfl)) | refine fin ?_ | refine Awp.ret ?_ | refine Awp.exit ?_ | ((first | (apply off; (exact rfl)) | apply condF); (first | (focus (simp only [go_sem, ↓reduceIte, simprocAttr, t1, t5, t7, t9, t10, hx1] <;> rfl)) | exact rfl)))
  all_goals first | contradiction | (exfalso; omega) | skip
  refine cal rfl rfl rfl ?_ (show ACallV Try.prog (.fn (.func 24) []) [.mptr F.b 0 0, .agg [iv p.r.id, iv p.r.cls, iv p.r.made, iv p.r.size, iv p.r.pk]] K1 _ from hput) ?_
  · (first | (focus (simp only [go_sem, ↓reduceIte, simprocAttr, t5]; first | done | rfl)) | rfl)
  rintro v1 K2 ⟨w2, rfl, hR2, hF2, ho2⟩
  have hq2 := hq1.prog hR1 hF2
  obtain ⟨l1, l2, l3, l4⟩ := hB.rep.raw.lt
  have hlow : ∀ j m, w.ord = .msl j 0 m → j < J.length := fun j m e => by
    obtain ⟨v, hv, _⟩ := hB.rep.ord.blk e
    exact (List.getElem?_eq_some_iff.1 hv).1
  have hC2 : Rep K2 F' w' S := hC.rep.away hC.hb hC.hr hC.hs hC.ht hC.row fun j h1 h2 => hF2.old j h2 (by omega) (by omega) (by omega) (by omega) fun m e => by have := hlow j m e; omega
  obtain ⟨g1, g2, g3⟩ := put_good (r := p.r) hB.good (by omega)
  have hA := Ack_ok hR2 g1 [(0, 1073741824)] true (by decide) (by simp [maxLen])
  repeat' (first | refine spD (fun _ => ?_) (fun _ => ?_) | refine spF (fun _ => ?_) (fun _ => ?_) | (apply gT; (exact rfl)) | (apply off; (exact rfl); (exact rfl)) | (apply condT; (exact rfl)) | (apply condF; (exact rfl)) | ((first | (apply stp0; (exact rfl); (exact rfl)) | (apply stpN0; (exact rfl)) | apply gT | apply condT | ((first | apply bodyQ_d0 | apply bodyQ_d1 | apply bodyQ_d2 | apply bodyQ_d3 | apply bodyQ_d4); (exact .inr rfl); (rw [Try.results7]))); (first | (focus (simp only [go_sem, ↓reduceIte, simprocAttr, t1, t5, t7, t9] <;> rfl)) | exact rfl); (first | (fail_if_success (show okD _ _ _ _ _ _ _ _ _)) | (first | exact okT | exact okN | exact okE rfl)); (first | (fail_if_success (show Bel _ _)) | (focus first | exact .val _ | (simp [oneOf, Bel_iff_tup, Bel_iff_agg, Bel_iff_rsl, Bel_iff_fn, Bel_iff_rptr, Bel_val]; done)))) | refine thenQ_n ?_ | refine thenQ_r ?_ | refine thenQ_e ?_ | refine blockQ_n ?_ | refine blockQ_r ?_ | refine blockQ_e ?_ | (apply blockQ_o; (exact rfl)) | refine Awp.seq ?_ | refine Awp.skip ?_ | refine Awp.block ?_ | refine reg (fun s => s == 10) ?_ | (apply drwE mixed (fun s => s == 10); (kernel_rfl)) | refine fin ?_ | refine Awp.ret ?_ | refine Awp.exit ?_ | ((first | (apply off; (exact rfl)) | apply condF); (first | (focus (simp only [go_sem, ↓reduceIte, simprocAttr, t1, t5, t7, t9] <;> rfl)) | exact rfl)))
  all_goals first | contradiction | (exfalso; omega) | skip
  refine cal rfl rfl rfl ?_ (show ACallV Try.prog (.fn (.func 33) []) [.mptr F.b 0 0, .rsl (sps [(0, 1073741824)]) true] K2 _ from hA) ?_
  · (first | (focus (simp only [go_sem, ↓reduceIte, simprocAttr, t5]; first | done | rfl)) | rfl)
  rintro v1 K3 ⟨rfl, w3, hP⟩
  have hq3 := hq2.prog hR2 hP.fr
  have hlen2 : K1.length ≤ K2.length := hF2.len
  have hk3 : ∀ j, J.length ≤ j → j < K1.length → K3[j]? = K2[j]? := by
    intro j h1 h2
    refine hP.fr.old j (by omega) (by omega) (by omega) (by omega) (by omega) fun m e => ?_
    rcases ho2 with ho2 | ho2
    · rw [ho2] at e
      have := hlow j m e
      omega
    · have := ho2 j m e
      omega
  obtain ⟨m1, m2, m3, m4⟩ := hC.rep.raw.lt
  have hC3 : Rep K3 F' w' S := by
    refine ⟨⟨?_, ?_, ?_, ?_, hC2.raw.rs, hC2.raw.rt, hC2.raw.st⟩, hC2.cap, hC2.used, hC2.time, ?_, hC2.mr, hC2.ms, hC2.mt⟩
    · rw [hk3 _ hC.hb m1]; exact hC2.raw.hb
    · rw [hk3 _ hC.hr m2]; exact hC2.raw.hr
    · rw [hk3 _ hC.hs m3]; exact hC2.raw.hs
    · rw [hk3 _ hC.ht m4]; exact hC2.raw.ht
    · refine hC2.ord.get fun o n v e hv => ?_
      obtain ⟨v1, hv1, _⟩ := hC.rep.ord.blk e
      rw [hk3 _ (hC.row _ _ e) (List.getElem?_eq_some_iff.1 hv1).1]; exact hv
  have hB3 : Both K3 F' w' S q a := ⟨hC3, hB.good, hq3⟩
  repeat' (first | refine spD (fun _ => ?_) (fun _ => ?_) | refine spF (fun _ => ?_) (fun _ => ?_) | (apply gT; (exact rfl)) | (apply off; (exact rfl); (exact rfl)) | (apply condT; (exact rfl)) | (apply condF; (exact rfl)) | ((first | (apply stp0; (exact rfl); (exact rfl)) | (apply stpN0; (exact rfl)) | apply gT | apply condT | ((first | apply bodyQ_d0 | apply bodyQ_d1 | apply bodyQ_d2 | apply bodyQ_d3 | apply bodyQ_d4); (exact .inr rfl); (rw [Try.results7]))); (first | (focus (simp only [go_sem, ↓reduceIte, simprocAttr, t1, t5, t6, t7, t8, t9, t11, t12] <;> rfl)) | exact rfl); (first | (fail_if_success (show okD _ _ _ _ _ _ _ _ _)) | (first | exact okT | exact okN | exact okE rfl)); (first | (fail_if_success (show Bel _ _)) | (focus first | exact .val _ | (simp [oneOf, Bel_iff_tup, Bel_iff_agg, Bel_iff_rsl, Bel_iff_fn, Bel_iff_rptr, Bel_val]; done)))) | refine thenQ_n ?_ | refine thenQ_r ?_ | refine thenQ_e ?_ | refine blockQ_n ?_ | refine blockQ_r ?_ | refine blockQ_e ?_ | (apply blockQ_o; (exact rfl)) | refine Awp.seq ?_ | refine Awp.skip ?_ | refine Awp.block ?_ | refine reg (fun s => s == 10) ?_ | (apply drwE mixed (fun s => s == 10); (kernel_rfl)) | refine fin ?_ | refine Awp.ret ?_ | refine Awp.exit ?_ | ((first | (apply off; (exact rfl)) | apply condF); (first | (focus (simp only [go_sem, ↓reduceIte, simprocAttr, t1, t5, t6, t7, t8, t9, t11, t12] <;> rfl)) | exact rfl)))
  all_goals first | contradiction | (exfalso; omega) | skip
  refine ⟨rfl, ⟨?_, ?_, ?_⟩, F', w', S, a, [], err, nilS, nilS, K3, K3, ?_, ?_, ?_, ?_, ?_, .own (lo := 0) .nil, .own (lo := 0) .nil, hB3, by omega, h0, by simp⟩
  · (first | (focus (simp only [go_sem, ↓reduceIte, simprocAttr, t1]; first | done | rfl)) | rfl)
  · (first | (focus (simp only [go_sem, ↓reduceIte, simprocAttr, t7]; first | done | rfl)) | rfl)
  · (first | (focus (simp only [go_sem, ↓reduceIte, simprocAttr, t9]; first | done | rfl)) | rfl)
  · (first | (focus (simp only [go_sem, ↓reduceIte, simprocAttr]; first | done | rfl)) | rfl)
  · (first | (focus (simp only [go_sem, ↓reduceIte, simprocAttr, t6]; first | done | rfl)) | rfl)
  · (first | (focus (simp only [go_sem, ↓reduceIte, simprocAttr, t8]; first | done | rfl)) | rfl)
  · (first | (focus (simp only [go_sem, ↓reduceIte, simprocAttr, t11]; first | done | rfl)) | rfl)
  · (first | (focus (simp only [go_sem, ↓reduceIte, simprocAttr, t12]; first | done | rfl)) | rfl)

end Go.Proofs.Ytlhchnnfgppneaa.Ab
namespace Go.Proofs.Ytlhchnnfgppneaa.Ab
open Go Go.RowKit Go.Proofs
set_option linter.unusedSimpArgs false
set_option linter.unusedVariables false
attribute [local irreducible] Awp wpO thenQ blockQ bodyQ ACalls stepA

set_option maxRecDepth 8000 in
set_option maxHeartbeats 8000000 in
theorem BufferPlays_ok (H : Hp) (c : Int) (l : List Ax) (ex : Bool) (hm : l.length ≤ maxLen) (h8 : ∀ a ∈ l, 0 ≤ a.kind ∧ a.kind ≤ 255) :
    ACalls Try.prog 7 [iv c, .rsl (axs l) ex] H fun v _ => v = bv true := by
  have hpl := axs_len l
  have hlo := long_ok H l ex 30 hm
  cases hlb : longB l 30 with
  | true =>
    rw [hlb] at hlo
    refine ACalls.of_body Try.func7 rfl (by kernel_rfl) (by rw [Try.ntmps7]; simp) ?_; rw [Try.ntmps7]
    repeat' (first | refine spD (fun _ => ?_) (fun _ => ?_) | refine spF (fun _ => ?_) (fun _ => ?_) | (apply gT; (exact rfl)) | (apply off; (exact rfl); (exact rfl)) | (apply condT; (exact rfl)) | (apply condF; (exact rfl)) | ((first | (apply stp0; (exact rfl); (exact rfl)) | (apply stpN0; (exact rfl)) | apply gT | apply condT | ((first | apply bodyQ_d0 | apply bodyQ_d1 | apply bodyQ_d2 | apply bodyQ_d3 | apply bodyQ_d4); (exact .inr rfl); (rw [Try.results7]))); (first | (focus (simp only [go_sem, ↓reduceIte, simprocAttr, hpl] <;> rfl)) | exact rfl); (first | (fail_if_success (show okD _ _ _ _ _ _ _ _ _)) | (first | exact okT | exact okN | exact okE rfl)); (first | (fail_if_success (show Bel _ _)) | (focus first | exact .val _ | (simp [oneOf, Bel_iff_tup, Bel_iff_agg, Bel_iff_rsl, Bel_iff_fn, Bel_iff_rptr, Bel_val]; done)))) | (apply calTo0; (exact rfl); (iterate 2 (simp only [go_sem, ↓reduceIte, simprocAttr, hpl]; rfl)); (first | exact hlo | exact fine_ok _); (first | exact okT | exact okN | exact okE rfl)) | refine thenQ_n ?_ | refine thenQ_r ?_ | refine thenQ_e ?_ | refine blockQ_n ?_ | refine blockQ_r ?_ | refine blockQ_e ?_ | (apply blockQ_o; (exact rfl)) | refine Awp.seq ?_ | refine Awp.skip ?_ | refine Awp.block ?_ | refine reg (fun s => s == 10) ?_ | (apply drwE mixed (fun s => s == 10); (kernel_rfl)) | refine fin ?_ | refine Awp.ret ?_ | refine Awp.exit ?_ | ((first | (apply off; (exact rfl)) | apply condF); (first | (focus (simp only [go_sem, ↓reduceIte, simprocAttr, hpl] <;> rfl)) | exact rfl)))
    all_goals first | contradiction | (exfalso; omega) | skip
    all_goals exact bodyQ_eq (.inr rfl) (by rw [Try.results7]; simp only [go_sem, ↓reduceIte, simprocAttr]; rfl) rfl
  | false =>
    rw [hlb] at hlo
    obtain ⟨hl30, hs30⟩ := longB_no hlb
    by_cases hc : newOk' c
    · have hnew := New_ok H c hc.1 hc.2
      refine ACalls.of_body Try.func7 rfl (by kernel_rfl) (by rw [Try.ntmps7]; simp) ?_; rw [Try.ntmps7]
      repeat' (first | refine spD (fun _ => ?_) (fun _ => ?_) | refine spF (fun _ => ?_) (fun _ => ?_) | (apply gT; (exact rfl)) | (apply off; (exact rfl); (exact rfl)) | (apply condT; (exact rfl)) | (apply condF; (exact rfl)) | ((first | (apply stp0; (exact rfl); (exact rfl)) | (apply stpN0; (exact rfl)) | apply gT | apply condT | ((first | apply bodyQ_d0 | apply bodyQ_d1 | apply bodyQ_d2 | apply bodyQ_d3 | apply bodyQ_d4); (exact .inr rfl); (rw [Try.results7]))); (first | (focus (simp only [go_sem, ↓reduceIte, simprocAttr, hpl] <;> rfl)) | exact rfl); (first | (fail_if_success (show okD _ _ _ _ _ _ _ _ _)) | (first | exact okT | exact okN | exact okE rfl)); (first | (fail_if_success (show Bel _ _)) | (focus first | exact .val _ | (simp [oneOf, Bel_iff_tup, Bel_iff_agg, Bel_iff_rsl, Bel_iff_fn, Bel_iff_rptr, Bel_val]; done)))) | (apply calTo0; (exact rfl); (iterate 2 (simp only [go_sem, ↓reduceIte, simprocAttr, hpl]; rfl)); (first | exact hlo); (first | exact okT | exact okN | exact okE rfl)) | refine thenQ_n ?_ | refine thenQ_r ?_ | refine thenQ_e ?_ | refine blockQ_n ?_ | refine blockQ_r ?_ | refine blockQ_e ?_ | (apply blockQ_o; (exact rfl)) | refine Awp.seq ?_ | refine Awp.skip ?_ | refine Awp.block ?_ | refine reg (fun s => s == 10) ?_ | (apply drwE mixed (fun s => s == 10); (kernel_rfl)) | refine fin ?_ | refine Awp.ret ?_ | refine Awp.exit ?_ | ((first | (apply off; (exact rfl)) | apply condF); (first | (focus (simp only [go_sem, ↓reduceIte, simprocAttr, hpl] <;> rfl)) | exact rfl)))
      all_goals first | contradiction | (exfalso; omega) | skip
      refine cal rfl rfl rfl ?_ (show ACallV Try.prog (.fn (.func 16) []) [iv c] H _ from hnew) ?_
      · (first | (focus (simp only [go_sem, ↓reduceIte, simprocAttr]; first | done | rfl)) | rfl)
      rintro v1 K ⟨F, w, rfl, hR, e1, e2, e3⟩
      clear e1 e2 e3
      have hrn := rnewOk K c hc
      have hg : Good ⟨c, 0, 0, []⟩ := ⟨by simp [idsL], by simp, rfl, by simp, hc, .nil⟩
      have hB0 : Both (K ++ [.cells [[iv c, iv 0, nilS]] 73]) F w ⟨c, 0, 0, []⟩ K.length nilS := ⟨hR.grow ((Grow.refl K).app _), hg, ⟨get_new _ _, .nil⟩⟩
      repeat' (first | refine spD (fun _ => ?_) (fun _ => ?_) | refine spF (fun _ => ?_) (fun _ => ?_) | (apply gT; (exact rfl)) | (apply off; (exact rfl); (exact rfl)) | (apply condT; (exact rfl)) | (apply condF; (exact rfl)) | ((first | (apply stp0; (exact rfl); (exact rfl)) | (apply stpN0; (exact rfl)) | apply gT | apply condT | ((first | apply bodyQ_d0 | apply bodyQ_d1 | apply bodyQ_d2 | apply bodyQ_d3 | apply bodyQ_d4); (exact .inr rfl); (rw [Try.results7]))); (first | (focus (simp only [go_sem, ↓reduceIte, simprocAttr, hpl] <;> rfl)) | exact rfl); (first | (fail_if_success (show okD _ _ _ _ _ _ _ _ _)) | (first | exact okT | exact okN | exact okE rfl)); (first | (fail_if_success (show Bel _ _)) | (focus first | exact .val _ | (simp [oneOf, Bel_iff_tup, Bel_iff_agg, Bel_iff_rsl, Bel_iff_fn, Bel_iff_rptr, Bel_val]; done)))) | (apply calTo0; (exact rfl); (iterate 2 (simp only [go_sem, ↓reduceIte, simprocAttr, hpl]; rfl)); (first | exact hrn); (first | exact okT | exact okN | exact okE rfl)) | refine thenQ_n ?_ | refine thenQ_r ?_ | refine thenQ_e ?_ | refine blockQ_n ?_ | refine blockQ_r ?_ | refine blockQ_e ?_ | (apply blockQ_o; (exact rfl)) | refine Awp.seq ?_ | refine Awp.skip ?_ | refine Awp.block ?_ | refine reg (fun s => s == 10) ?_ | (apply drwE mixed (fun s => s == 10); (kernel_rfl)) | refine fin ?_ | refine Awp.ret ?_ | refine Awp.exit ?_ | ((first | (apply off; (exact rfl)) | apply condF); (first | (focus (simp only [go_sem, ↓reduceIte, simprocAttr, hpl] <;> rfl)) | exact rfl)))
      all_goals first | contradiction | (exfalso; omega) | skip
      generalize K ++ [AObj.cells [[iv c, iv 0, nilS]] 73] = K0 at *
      generalize K.length = q at *
      refine Awp.loop (ι := Nat) (fun i T' K => i ≤ l.length ∧ (T' 1 = .rsl (axs l) ex ∧ T' 7 = .mptr q 0 0 ∧ T' 9 = iv i) ∧ ∃ F w S a err, T' 5 = .mptr F.b 0 0 ∧ T' 6 = iv err ∧ T' 8 = iv err ∧ Both K F w S q a ∧ S.L.length ≤ i ∧ 0 ≤ S.time) (fun i => l.length - i) 0 ?_ ?_
      · refine ⟨Nat.zero_le _, ⟨?_, ?_, ?_⟩, F, w, _, nilS, 0, ?_, ?_, ?_, hB0, by simp, by simp⟩
        · (first | (focus (simp only [go_sem, ↓reduceIte, simprocAttr]; first | done | rfl)) | rfl)
        · (first | (focus (simp only [go_sem, ↓reduceIte, simprocAttr]; first | done | rfl)) | rfl)
        · (first | (focus (simp only [go_sem, ↓reduceIte, simprocAttr]; first | done | rfl)) | rfl)
        · (first | (focus (simp only [go_sem, ↓reduceIte, simprocAttr]; first | done | rfl)) | rfl)
        · (first | (focus (simp only [go_sem, ↓reduceIte, simprocAttr]; first | done | rfl)) | rfl)
        · (first | (focus (simp only [go_sem, ↓reduceIte, simprocAttr]; first | done | rfl)) | rfl)
      clear hB0 hR hg hrn hnew K K0 F w
      rintro i T K ⟨hi, ⟨t1, t7, t9⟩, F, w, S, a, err, t5, t6, t8, hB, hle, h0⟩
      by_cases hlt : i < l.length
      · obtain ⟨p, hp⟩ := nth hlt
        have hpc := axs_at hp
        have hpm := List.mem_of_getElem? hp
        have hk8 := h8 p hpm
        have hps := hs30 p hpm
        have hi30 : i < 30 := by omega
        have hsu := wsucc hlt hm
        repeat' ((fail_if_success (apply stopR (id := 14))); (fail_if_success (apply stopS (id := 14))); first | refine spD (fun _ => ?_) (fun _ => ?_) | refine spF (fun _ => ?_) (fun _ => ?_) | (apply gT; (exact rfl)) | (apply off; (exact rfl); (exact rfl)) | (apply condT; (exact rfl)) | (apply condF; (exact rfl)) | ((first | (apply stp0; (exact rfl); (exact rfl)) | (apply stpN0; (exact rfl)) | apply gT | apply condT | ((first | apply bodyQ_d0 | apply bodyQ_d1 | apply bodyQ_d2 | apply bodyQ_d3 | apply bodyQ_d4); (exact .inr rfl); (rw [Try.results7]))); (first | (focus (simp only [go_sem, ↓reduceIte, simprocAttr, Int.ofNat_lt.2 hlt, t1, t5, t6, t7, t8, t9, hpl, hpc] <;> rfl)) | exact rfl); (first | (fail_if_success (show okD _ _ _ _ _ _ _ _ _)) | (first | exact okT | exact okN | exact okE rfl)); (first | (fail_if_success (show Bel _ _)) | (focus first | exact .val _ | (simp [oneOf, Bel_iff_tup, Bel_iff_agg, Bel_iff_rsl, Bel_iff_fn, Bel_iff_rptr, Bel_val]; done)))) | refine thenQ_n ?_ | refine thenQ_r ?_ | refine thenQ_e ?_ | refine blockQ_n ?_ | refine blockQ_r ?_ | refine blockQ_e ?_ | (apply blockQ_o; (exact rfl)) | refine Awp.seq ?_ | refine Awp.skip ?_ | refine Awp.block ?_ | refine reg (fun s => s == 10) ?_ | (apply drwE mixed (fun s => s == 10); (kernel_rfl)) | refine fin ?_ | refine Awp.ret ?_ | refine Awp.exit ?_ | ((first | (apply off; (exact rfl)) | apply condF); (first | (focus (simp only [go_sem, ↓reduceIte, simprocAttr, Int.ofNat_lt.2 hlt, t1, t5, t6, t7, t8, t9, hpl, hpc] <;> rfl)) | exact rfl)))
        all_goals first | contradiction | skip
        refine Awp.withT (fun T' => Hd14 l ex q i K.length p F err T') ⟨by (first | (focus (simp only [go_sem, ↓reduceIte, simprocAttr, t1]; first | done | rfl)) | rfl), by (first | (focus (simp only [go_sem, ↓reduceIte, simprocAttr, t5]; first | done | rfl)) | rfl), by (first | (focus (simp only [go_sem, ↓reduceIte, simprocAttr, t6]; first | done | rfl)) | rfl), by (first | (focus (simp only [go_sem, ↓reduceIte, simprocAttr, t7]; first | done | rfl)) | rfl), by (first | (focus (simp only [go_sem, ↓reduceIte, simprocAttr, t8]; first | done | rfl)) | rfl), by (first | (focus (simp only [go_sem, ↓reduceIte, simprocAttr, t9]; first | done | rfl)) | rfl), by (first | (focus (simp only [go_sem, ↓reduceIte, simprocAttr]; first | done | rfl)) | rfl), by (first | (focus (simp only [go_sem, ↓reduceIte, simprocAttr]; first | done | rfl)) | rfl), by (first | (focus (simp only [go_sem, ↓reduceIte, simprocAttr]; first | done | rfl)) | rfl)⟩ ?_
        clear t1 t5 t6 t7 t8 t9 T
        rintro T hT
        have hBJ := hB.grow ((Grow.refl K).app [.cells [p.cs] 65])
        have hxJ := get_new K (.cells [p.cs] 65)
        have hrd : Awp Try.prog 172 none (hdC (tl (tl (inC (hdC (tl (inC (inC (tl (hdC (tl (tl (tl (tl (tl (tl (Try.f7.body.getD .skip))))))))))))))))) T (K ++ [.cells [p.cs] 65]) (Q30 l ex q i) := by
          rcases (kinds hk8.1 hk8.2).1 with hk | hk | hk | hk
          · exact round0 hT hBJ hxJ hle hi30 h0 hk8 hk
          · exact round1 hT hBJ hxJ hle hi30 h0 hk8 hk
          · exact round2 hT hBJ hxJ hle hi30 h0 hps hk8 hk
          · exact round3 hT hBJ hxJ hle hi30 h0 hk8 hk
        refine Awp.mono hrd ?_
        clear hrd hT hBJ hxJ hB hle h0 T K F w S a err
        rintro e T K ⟨rfl, ⟨t1, t7, t9⟩, F, w, S, a, x, err, z1, z2, K1, K2, t5, t6, t8, t11, t12, f1, f2, hB, hle, h0, hx3⟩
        refine thenQ_n ?_
        refine Awp.frz 11 f1 t11 ?_
        refine Awp.frz 12 f2 (by (first | (focus (simp only [go_sem, ↓reduceIte, simprocAttr, t12]; first | done | rfl)) | rfl)) ?_
        refine Awp.withT (fun T' => T' 1 = .rsl (axs l) ex ∧ T' 5 = .mptr F.b 0 0 ∧ T' 6 = iv err ∧ T' 7 = .mptr q 0 0 ∧ T' 8 = iv err ∧ T' 9 = iv i ∧ T' 11 = .rsl (ints x) false ∧ T' 12 = .rsl (ints x) false) ⟨by (first | (focus (simp only [go_sem, ↓reduceIte, simprocAttr, t1]; first | done | rfl)) | rfl), by (first | (focus (simp only [go_sem, ↓reduceIte, simprocAttr, t5]; first | done | rfl)) | rfl), by (first | (focus (simp only [go_sem, ↓reduceIte, simprocAttr, t6]; first | done | rfl)) | rfl), by (first | (focus (simp only [go_sem, ↓reduceIte, simprocAttr, t7]; first | done | rfl)) | rfl), by (first | (focus (simp only [go_sem, ↓reduceIte, simprocAttr, t8]; first | done | rfl)) | rfl), by (first | (focus (simp only [go_sem, ↓reduceIte, simprocAttr, t9]; first | done | rfl)) | rfl), by (first | (focus (simp only [go_sem, ↓reduceIte, simprocAttr]; first | done | rfl)) | rfl), by (first | (focus (simp only [go_sem, ↓reduceIte, simprocAttr]; first | done | rfl)) | rfl)⟩ ?_
        clear t1 t5 t6 t7 t8 t9 t11 t12 f1 f2 z1 z2 K1 K T
        rintro T ⟨t1, t5, t6, t7, t8, t9, t11, t12⟩
        have c1 := longs_ok K2 x false false (by simp only [maxLen]; omega)
        have c2 := Held_ok hB.rep hB.good
        have hlen := hB.good.len
        have c3 := heldM_ok hB.rq.row false (by simp only [maxLen]; omega)
        have c4 := Used_ok hB.rep.raw
        have c5 := rUsed_ok hB.rq hB.good.ok hlen
        rw [hB.rep.used] at c4
        rw [show sumH S.L = S.used from hB.good.sum.symm] at c5
        have hbq := hB.rq.hb
        repeat' (first | refine spD (fun _ => ?_) (fun _ => ?_) | refine spF (fun _ => ?_) (fun _ => ?_) | (apply gT; (exact rfl)) | (apply off; (exact rfl); (exact rfl)) | (apply condT; (exact rfl)) | (apply condF; (exact rfl)) | ((first | (apply stp0; (exact rfl); (exact rfl)) | (apply stpN0; (exact rfl)) | apply gT | apply condT | ((first | apply bodyQ_d0 | apply bodyQ_d1 | apply bodyQ_d2 | apply bodyQ_d3 | apply bodyQ_d4); (exact .inr rfl); (rw [Try.results7]))); (first | (focus (simp only [go_sem, ↓reduceIte, simprocAttr, t1, t5, t6, t7, t8, t9, t11, t12, hbq, hsu] <;> rfl)) | exact rfl); (first | (fail_if_success (show okD _ _ _ _ _ _ _ _ _)) | (first | exact okT | exact okN | exact okE rfl)); (first | (fail_if_success (show Bel _ _)) | (focus first | exact .val _ | (simp [oneOf, Bel_iff_tup, Bel_iff_agg, Bel_iff_rsl, Bel_iff_fn, Bel_iff_rptr, Bel_val]; done)))) | (apply calTo0; (exact rfl); (iterate 2 (simp only [go_sem, ↓reduceIte, simprocAttr, t1, t5, t6, t7, t8, t9, t11, t12, hbq, hsu]; rfl)); (first | exact c1 | exact c2 | exact c3 | exact c4 | exact c5); (first | exact okT | exact okN | exact okE rfl)) | refine thenQ_n ?_ | refine thenQ_r ?_ | refine thenQ_e ?_ | refine blockQ_n ?_ | refine blockQ_r ?_ | refine blockQ_e ?_ | (apply blockQ_o; (exact rfl)) | refine Awp.seq ?_ | refine Awp.skip ?_ | refine Awp.block ?_ | refine reg (fun s => s == 10) ?_ | (apply drwE mixed (fun s => s == 10); (kernel_rfl)) | refine fin ?_ | refine Awp.ret ?_ | refine Awp.exit ?_ | ((first | (apply off; (exact rfl)) | apply condF); (first | (focus (simp only [go_sem, ↓reduceIte, simprocAttr, t1, t5, t6, t7, t8, t9, t11, t12, hbq, hsu] <;> rfl)) | exact rfl)))
        all_goals first | contradiction | skip
        refine ⟨i + 1, ⟨hlt, ⟨?_, ?_, ?_⟩, F, w, S, a, err, ?_, ?_, ?_, hB, hle, h0⟩, Nat.sub_lt_sub_left hlt (Nat.lt_succ_self i)⟩
        · (first | (focus (simp only [go_sem, ↓reduceIte, simprocAttr, t1]; first | done | rfl)) | rfl)
        · (first | (focus (simp only [go_sem, ↓reduceIte, simprocAttr, t7]; first | done | rfl)) | rfl)
        · (first | (focus (simp only [go_sem, ↓reduceIte, simprocAttr, hsu]; first | done | rfl)) | rfl)
        · (first | (focus (simp only [go_sem, ↓reduceIte, simprocAttr, t5]; first | done | rfl)) | rfl)
        · (first | (focus (simp only [go_sem, ↓reduceIte, simprocAttr, t6]; first | done | rfl)) | rfl)
        · (first | (focus (simp only [go_sem, ↓reduceIte, simprocAttr, t8]; first | done | rfl)) | rfl)
      · have hie : i = l.length := Nat.le_antisymm hi (Nat.not_lt.1 hlt)
        subst hie
        repeat' (first | refine spD (fun _ => ?_) (fun _ => ?_) | refine spF (fun _ => ?_) (fun _ => ?_) | (apply gT; (exact rfl)) | (apply off; (exact rfl); (exact rfl)) | (apply condT; (exact rfl)) | (apply condF; (exact rfl)) | ((first | (apply stp0; (exact rfl); (exact rfl)) | (apply stpN0; (exact rfl)) | apply gT | apply condT | ((first | apply bodyQ_d0 | apply bodyQ_d1 | apply bodyQ_d2 | apply bodyQ_d3 | apply bodyQ_d4); (exact .inr rfl); (rw [Try.results7]))); (first | (focus (simp only [go_sem, ↓reduceIte, simprocAttr, Int.lt_irrefl, t1, t5, t7, t9, hpl] <;> rfl)) | exact rfl); (first | (fail_if_success (show okD _ _ _ _ _ _ _ _ _)) | (first | exact okT | exact okN | exact okE rfl)); (first | (fail_if_success (show Bel _ _)) | (focus first | exact .val _ | (simp [oneOf, Bel_iff_tup, Bel_iff_agg, Bel_iff_rsl, Bel_iff_fn, Bel_iff_rptr, Bel_val]; done)))) | (apply calTo0; (exact rfl); (iterate 2 (simp only [go_sem, ↓reduceIte, simprocAttr, Int.lt_irrefl, t1, t5, t7, t9, hpl]; rfl)); (first | exact fine_ok _); (first | exact okT | exact okN | exact okE rfl)) | refine thenQ_n ?_ | refine thenQ_r ?_ | refine thenQ_e ?_ | refine blockQ_n ?_ | refine blockQ_r ?_ | refine blockQ_e ?_ | (apply blockQ_o; (exact rfl)) | refine Awp.seq ?_ | refine Awp.skip ?_ | refine Awp.block ?_ | refine reg (fun s => s == 10) ?_ | (apply drwE mixed (fun s => s == 10); (kernel_rfl)) | refine fin ?_ | refine Awp.ret ?_ | refine Awp.exit ?_ | ((first | (apply off; (exact rfl)) | apply condF); (first | (focus (simp only [go_sem, ↓reduceIte, simprocAttr, Int.lt_irrefl, t1, t5, t7, t9, hpl] <;> rfl)) | exact rfl)))
        all_goals first | contradiction | (exfalso; omega) | skip
        all_goals exact bodyQ_eq (.inr rfl) (by rw [Try.results7]; simp only [go_sem, ↓reduceIte, simprocAttr]; rfl) rfl
    · have hn1 := newNo H c hc
      have hn2 := rnewNo H c hc
      refine ACalls.of_body Try.func7 rfl (by kernel_rfl) (by rw [Try.ntmps7]; simp) ?_; rw [Try.ntmps7]
      repeat' (first | refine spD (fun _ => ?_) (fun _ => ?_) | refine spF (fun _ => ?_) (fun _ => ?_) | (apply gT; (exact rfl)) | (apply off; (exact rfl); (exact rfl)) | (apply condT; (exact rfl)) | (apply condF; (exact rfl)) | ((first | (apply stp0; (exact rfl); (exact rfl)) | (apply stpN0; (exact rfl)) | apply gT | apply condT | ((first | apply bodyQ_d0 | apply bodyQ_d1 | apply bodyQ_d2 | apply bodyQ_d3 | apply bodyQ_d4); (exact .inr rfl); (rw [Try.results7]))); (first | (focus (simp only [go_sem, ↓reduceIte, simprocAttr, hpl] <;> rfl)) | exact rfl); (first | (fail_if_success (show okD _ _ _ _ _ _ _ _ _)) | (first | exact okT | exact okN | exact okE rfl)); (first | (fail_if_success (show Bel _ _)) | (focus first | exact .val _ | (simp [oneOf, Bel_iff_tup, Bel_iff_agg, Bel_iff_rsl, Bel_iff_fn, Bel_iff_rptr, Bel_val]; done)))) | (apply calTo0; (exact rfl); (iterate 2 (simp only [go_sem, ↓reduceIte, simprocAttr, hpl]; rfl)); (first | exact hlo | exact hn1 | exact hn2 | exact fine_ok _); (first | exact okT | exact okN | exact okE rfl)) | refine thenQ_n ?_ | refine thenQ_r ?_ | refine thenQ_e ?_ | refine blockQ_n ?_ | refine blockQ_r ?_ | refine blockQ_e ?_ | (apply blockQ_o; (exact rfl)) | refine Awp.seq ?_ | refine Awp.skip ?_ | refine Awp.block ?_ | refine reg (fun s => s == 10) ?_ | (apply drwE mixed (fun s => s == 10); (kernel_rfl)) | refine fin ?_ | refine Awp.ret ?_ | refine Awp.exit ?_ | ((first | (apply off; (exact rfl)) | apply condF); (first | (focus (simp only [go_sem, ↓reduceIte, simprocAttr, hpl] <;> rfl)) | exact rfl)))
      all_goals first | contradiction | (exfalso; omega) | skip
      all_goals exact bodyQ_eq (.inr rfl) (by rw [Try.results7]; simp only [go_sem, ↓reduceIte, simprocAttr]; rfl) rfl

end Go.Proofs.Ytlhchnnfgppneaa.Ab
