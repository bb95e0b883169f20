/- The law BufferPlays: a round that sends, and one that copies. The law BufferPlays. From a law's contract to its row: what the arguments of a call are as abstract values. What the arguments of a call are, told cell by cell. The law BufferPlays, for all arguments. -/
import Derived.Test.YtlhchnnfgppneaaYP
import Derived.Test.YtlhchnnfgppneaaYB
import Derived.OpenShut
import Derived.ChangeOld
import Derived.SizedLaws
namespace Go.Proofs.Ytlhchnnfgppneaa.Ab
open Go Go.RowKit Go.Proofs
set_option linter.unusedSimpArgs false
set_option linter.unusedVariables false
attribute [local irreducible] Awp wpO thenQ blockQ bodyQ ACalls stepA

theorem Rq.ownK {K K2 : Hp} {q : Nat} {a z : AV} {c t c' t' : Int} {L L' : List Hd} {es : List (List AV)} (h2 : Rq K2 q a c' t' L') (h : Rq K q a c t L) (hO : Own K2.length 2 K z es) : Rq (ownK K z) q a c t L :=
  ⟨by rw [ownK_low hO (List.getElem?_eq_some_iff.1 h2.hb).1]; exact h.hb, h.row.get fun o n v e hb => by
    obtain ⟨v', hv'⟩ := h2.row.blk e
    rw [ownK_low hO (List.getElem?_eq_some_iff.1 hv').1]; exact hb⟩

set_option maxRecDepth 8000 in
set_option maxHeartbeats 8000000 in
theorem round1 {J : Hp} {l : List Ax} {ex : Bool} {q i x : Nat} {p : Ax} {F : Ft} {w : Rw} {S : Bf} {a : AV} {err : Int} {T : Env} (hT : Hd14 l ex q i x p F err T) (hB : Both J F w S q a) (hx : J[x]? = some (.cells [p.cs] 65)) (hl : S.L.length ≤ i) (hi : i < 30) (h0 : 0 ≤ S.time)
    (hk8 : 0 ≤ p.kind ∧ p.kind ≤ 255) (hk : p.kind.tmod 4 = 1) : Awp Try.prog 172 none (hdC (tl (tl (inC (hdC (tl (inC (inC (tl (hdC (tl (tl (tl (tl (tl (tl (Try.f7.body.getD .skip))))))))))))))))) T J (Q30 l ex q i) := by
  obtain ⟨t1, t5, t6, t7, t8, t9, t10, t11, t12⟩ := hT
  have hkw := (kinds hk8.1 hk8.2).2
  rw [hk] at hkw
  simp only [Ax.cs, u8v] at hx
  unfold Try.f7
  simp only [tl, hdC, inC, Option.getD_some]
  repeat' (first | refine spD (fun _ => ?_) (fun _ => ?_) | refine spF (fun _ => ?_) (fun _ => ?_) | (apply gT; (exact rfl)) | (apply off; (exact rfl); (exact rfl)) | (apply condT; (exact rfl)) | (apply condF; (exact rfl)) | ((first | (apply stp0; (exact rfl); (exact rfl)) | (apply stpN0; (exact rfl)) | apply gT | apply condT | ((first | apply bodyQ_d0 | apply bodyQ_d1 | apply bodyQ_d2 | apply bodyQ_d3 | apply bodyQ_d4); (exact .inr rfl); (rw [Try.results7]))); (first | (focus (simp only [go_sem, ↓reduceIte, simprocAttr, t1, t5, t6, t7, t8, t9, t10, t11, t12, hx, hk, hkw] <;> rfl)) | exact rfl); (first | (fail_if_success (show okD _ _ _ _ _ _ _ _ _)) | (first | exact okT | exact okN | exact okE rfl)); (first | (fail_if_success (show Bel _ _)) | (focus first | exact .val _ | (simp [oneOf, Bel_iff_tup, Bel_iff_agg, Bel_iff_rsl, Bel_iff_fn, Bel_iff_rptr, Bel_val]; done)))) | refine thenQ_n ?_ | refine thenQ_r ?_ | refine thenQ_e ?_ | refine blockQ_n ?_ | refine blockQ_r ?_ | refine blockQ_e ?_ | (apply blockQ_o; (exact rfl)) | refine Awp.seq ?_ | refine Awp.skip ?_ | refine Awp.block ?_ | refine reg (fun s => s == 10) ?_ | (apply drwE mixed (fun s => s == 10); (kernel_rfl)) | refine fin ?_ | refine Awp.ret ?_ | refine Awp.exit ?_ | ((first | (apply off; (exact rfl)) | apply condF); (first | (focus (simp only [go_sem, ↓reduceIte, simprocAttr, t1, t5, t6, t7, t8, t9, t10, t11, t12, hx, hk, hkw] <;> rfl)) | exact rfl)))
  all_goals first | contradiction | (exfalso; omega) | skip
  by_cases hbad : badB S.time p.bytes p.t p.wait
  · have hA := burstBad hB.rep.raw p.bytes p.t p.wait (by rw [hB.rep.time]; exact hbad)
    refine cal rfl rfl rfl ?_ (show ACallV Try.prog (.fn (.func 29) []) [.mptr F.b 0 0, iv p.bytes, iv p.t, iv p.wait] J _ from hA) ?_
    · (first | (focus (simp only [go_sem, ↓reduceIte, simprocAttr, t5]; first | done | rfl)) | rfl)
    rintro v1 K1 ⟨rfl, hG1⟩
    have hB1 := hB.grow hG1
    have hx1 := hG1.get hx
    have hrA := rburstBad hB1.rq p.bytes p.t p.wait hbad
    repeat' (first | refine spD (fun _ => ?_) (fun _ => ?_) | refine spF (fun _ => ?_) (fun _ => ?_) | (apply gT; (exact rfl)) | (apply off; (exact rfl); (exact rfl)) | (apply condT; (exact rfl)) | (apply condF; (exact rfl)) | ((first | (apply stp0; (exact rfl); (exact rfl)) | (apply stpN0; (exact rfl)) | apply gT | apply condT | ((first | apply bodyQ_d0 | apply bodyQ_d1 | apply bodyQ_d2 | apply bodyQ_d3 | apply bodyQ_d4); (exact .inr rfl); (rw [Try.results7]))); (first | (focus (simp only [go_sem, ↓reduceIte, simprocAttr, t1, t5, t7, t9, t10, hx1] <;> rfl)) | exact rfl); (first | (fail_if_success (show okD _ _ _ _ _ _ _ _ _)) | (first | exact okT | exact okN | exact okE rfl)); (first | (fail_if_success (show Bel _ _)) | (focus first | exact .val _ | (simp [oneOf, Bel_iff_tup, Bel_iff_agg, Bel_iff_rsl, Bel_iff_fn, Bel_iff_rptr, Bel_val]; done)))) | refine thenQ_n ?_ | refine thenQ_r ?_ | refine thenQ_e ?_ | refine blockQ_n ?_ | refine blockQ_r ?_ | refine blockQ_e ?_ | (apply blockQ_o; (exact rfl)) | refine Awp.seq ?_ | refine Awp.skip ?_ | refine Awp.block ?_ | refine reg (fun s => s == 10) ?_ | (apply drwE mixed (fun s => s == 10); (kernel_rfl)) | refine fin ?_ | refine Awp.ret ?_ | refine Awp.exit ?_ | ((first | (apply off; (exact rfl)) | apply condF); (first | (focus (simp only [go_sem, ↓reduceIte, simprocAttr, t1, t5, t7, t9, t10, hx1] <;> rfl)) | exact rfl)))
    all_goals first | contradiction | (exfalso; omega) | skip
    refine cal rfl rfl rfl ?_ (show ACallV Try.prog (.fn (.func 32) []) [.mptr q 0 0, iv p.bytes, iv p.t, iv p.wait] K1 _ from hrA) ?_
    · (first | (focus (simp only [go_sem, ↓reduceIte, simprocAttr, t7]; first | done | rfl)) | rfl)
    rintro v1 K2 ⟨rfl, hG2⟩
    have hB2 := hB1.grow hG2
    repeat' (first | refine spD (fun _ => ?_) (fun _ => ?_) | refine spF (fun _ => ?_) (fun _ => ?_) | (apply gT; (exact rfl)) | (apply off; (exact rfl); (exact rfl)) | (apply condT; (exact rfl)) | (apply condF; (exact rfl)) | ((first | (apply stp0; (exact rfl); (exact rfl)) | (apply stpN0; (exact rfl)) | apply gT | apply condT | ((first | apply bodyQ_d0 | apply bodyQ_d1 | apply bodyQ_d2 | apply bodyQ_d3 | apply bodyQ_d4); (exact .inr rfl); (rw [Try.results7]))); (first | (focus (simp only [go_sem, ↓reduceIte, simprocAttr, t1, t5, t6, t7, t8, t9] <;> rfl)) | exact rfl); (first | (fail_if_success (show okD _ _ _ _ _ _ _ _ _)) | (first | exact okT | exact okN | exact okE rfl)); (first | (fail_if_success (show Bel _ _)) | (focus first | exact .val _ | (simp [oneOf, Bel_iff_tup, Bel_iff_agg, Bel_iff_rsl, Bel_iff_fn, Bel_iff_rptr, Bel_val]; done)))) | refine thenQ_n ?_ | refine thenQ_r ?_ | refine thenQ_e ?_ | refine blockQ_n ?_ | refine blockQ_r ?_ | refine blockQ_e ?_ | (apply blockQ_o; (exact rfl)) | refine Awp.seq ?_ | refine Awp.skip ?_ | refine Awp.block ?_ | refine reg (fun s => s == 10) ?_ | (apply drwE mixed (fun s => s == 10); (kernel_rfl)) | refine fin ?_ | refine Awp.ret ?_ | refine Awp.exit ?_ | ((first | (apply off; (exact rfl)) | apply condF); (first | (focus (simp only [go_sem, ↓reduceIte, simprocAttr, t1, t5, t6, t7, t8, t9] <;> rfl)) | exact rfl)))
    all_goals first | contradiction | (exfalso; omega) | skip
    refine ⟨rfl, ⟨?_, ?_, ?_⟩, F, w, S, a, [], 3, nilS, nilS, K2, K2, ?_, ?_, ?_, ?_, ?_, .own (lo := 0) .nil, .own (lo := 0) .nil, hB2, by omega, h0, by simp⟩
    · (first | (focus (simp only [go_sem, ↓reduceIte, simprocAttr, t1]; first | done | rfl)) | rfl)
    · (first | (focus (simp only [go_sem, ↓reduceIte, simprocAttr, t7]; first | done | rfl)) | rfl)
    · (first | (focus (simp only [go_sem, ↓reduceIte, simprocAttr, t9]; first | done | rfl)) | rfl)
    · (first | (focus (simp only [go_sem, ↓reduceIte, simprocAttr, t5]; first | done | rfl)) | rfl)
    · (first | (focus (simp only [go_sem, ↓reduceIte, simprocAttr]; first | done | rfl)) | rfl)
    · (first | (focus (simp only [go_sem, ↓reduceIte, simprocAttr]; first | done | rfl)) | rfl)
    · (first | (focus (simp only [go_sem, ↓reduceIte, simprocAttr]; first | done | rfl)) | rfl)
    · (first | (focus (simp only [go_sem, ↓reduceIte, simprocAttr]; first | done | rfl)) | rfl)
  · unfold badB at hbad
    have hA := Burst_ok hB.rep hB.good p.bytes p.t p.wait (by omega) h0 (by omega) (by omega)
    refine cal rfl rfl rfl ?_ (show ACallV Try.prog (.fn (.func 29) []) [.mptr F.b 0 0, iv p.bytes, iv p.t, iv p.wait] J _ from hA) ?_
    · (first | (focus (simp only [go_sem, ↓reduceIte, simprocAttr, t5]; first | done | rfl)) | rfl)
    rintro v1 K1 ⟨a2, w2, rfl, hOt, hR1, hF1, hw2⟩
    repeat' ((fail_if_success (apply stopR (id := 24))); (fail_if_success (apply stopS (id := 24))); first | refine spD (fun _ => ?_) (fun _ => ?_) | refine spF (fun _ => ?_) (fun _ => ?_) | (apply gT; (exact rfl)) | (apply off; (exact rfl); (exact rfl)) | (apply condT; (exact rfl)) | (apply condF; (exact rfl)) | ((first | (apply stp0; (exact rfl); (exact rfl)) | (apply stpN0; (exact rfl)) | apply gT | apply condT | ((first | apply bodyQ_d0 | apply bodyQ_d1 | apply bodyQ_d2 | apply bodyQ_d3 | apply bodyQ_d4); (exact .inr rfl); (rw [Try.results7]))); (first | (focus (simp only [go_sem, ↓reduceIte, simprocAttr, t1, t5, t7, t9, t10] <;> rfl)) | exact rfl); (first | (fail_if_success (show okD _ _ _ _ _ _ _ _ _)) | (first | exact okT | exact okN | exact okE rfl)); (first | (fail_if_success (show Bel _ _)) | (focus first | exact .val _ | (simp [oneOf, Bel_iff_tup, Bel_iff_agg, Bel_iff_rsl, Bel_iff_fn, Bel_iff_rptr, Bel_val]; done)))) | refine thenQ_n ?_ | refine thenQ_r ?_ | refine thenQ_e ?_ | refine blockQ_n ?_ | refine blockQ_r ?_ | refine blockQ_e ?_ | (apply blockQ_o; (exact rfl)) | refine Awp.seq ?_ | refine Awp.skip ?_ | refine Awp.block ?_ | refine reg (fun s => s == 10) ?_ | (apply drwE mixed (fun s => s == 10); (kernel_rfl)) | refine fin ?_ | refine Awp.ret ?_ | refine Awp.exit ?_ | ((first | (apply off; (exact rfl)) | apply condF); (first | (focus (simp only [go_sem, ↓reduceIte, simprocAttr, t1, t5, t7, t9, t10] <;> rfl)) | exact rfl)))
    all_goals first | contradiction | (exfalso; omega) | skip
    refine Awp.withT (fun T' => T' 1 = .rsl (axs l) ex ∧ T' 5 = .mptr F.b 0 0 ∧ T' 6 = iv 0 ∧ T' 7 = .mptr q 0 0 ∧ T' 9 = iv i ∧ T' 10 = .mptr x 0 0 ∧ T' 11 = a2) ⟨?_, ?_, ?_, ?_, ?_, ?_, ?_⟩ ?_
    · (first | (focus (simp only [go_sem, ↓reduceIte, simprocAttr, t1]; first | done | rfl)) | rfl)
    · (first | (focus (simp only [go_sem, ↓reduceIte, simprocAttr, t5]; first | done | rfl)) | rfl)
    · (first | (focus (simp only [go_sem, ↓reduceIte, simprocAttr]; first | done | rfl)) | rfl)
    · (first | (focus (simp only [go_sem, ↓reduceIte, simprocAttr, t7]; first | done | rfl)) | rfl)
    · (first | (focus (simp only [go_sem, ↓reduceIte, simprocAttr, t9]; first | done | rfl)) | rfl)
    · (first | (focus (simp only [go_sem, ↓reduceIte, simprocAttr, t10]; first | done | rfl)) | rfl)
    · (first | (focus (simp only [go_sem, ↓reduceIte, simprocAttr]; first | done | rfl)) | rfl)
    clear t1 t5 t6 t7 t8 t9 t10 t11 t12 T
    rintro T ⟨t1, t5, t6, t7, t9, t10, t11⟩
    refine Awp.frzOwn 11 hOt.own t11 ?_
    refine Awp.withT (fun T' => T' 1 = .rsl (axs l) ex ∧ T' 5 = .mptr F.b 0 0 ∧ T' 6 = iv 0 ∧ T' 7 = .mptr q 0 0 ∧ T' 9 = iv i ∧ T' 10 = .mptr x 0 0 ∧ T' 11 = .rsl (ints (bst p.t p.wait S.L p.bytes).2) false) ⟨?_, ?_, ?_, ?_, ?_, ?_, ?_⟩ ?_
    · (first | (focus (simp only [go_sem, ↓reduceIte, simprocAttr, t1]; first | done | rfl)) | rfl)
    · (first | (focus (simp only [go_sem, ↓reduceIte, simprocAttr, t5]; first | done | rfl)) | rfl)
    · (first | (focus (simp only [go_sem, ↓reduceIte, simprocAttr, t6]; first | done | rfl)) | rfl)
    · (first | (focus (simp only [go_sem, ↓reduceIte, simprocAttr, t7]; first | done | rfl)) | rfl)
    · (first | (focus (simp only [go_sem, ↓reduceIte, simprocAttr, t9]; first | done | rfl)) | rfl)
    · (first | (focus (simp only [go_sem, ↓reduceIte, simprocAttr, t10]; first | done | rfl)) | rfl)
    · (first | (focus (simp only [go_sem, ↓reduceIte, simprocAttr]; first | done | rfl)) | rfl)
    clear t1 t5 t6 t7 t9 t10 t11 T
    rintro T ⟨t1, t5, t6, t7, t9, t10, t11⟩
    have hR2 := hB.rep.outA hR1 hw2 hOt
    have hFO := hF1.o (w := w) |>.ownA hOt.own
    have hq2 := hB.rq.prog hB.rep hFO
    have hx2 := hFO.keeps hB.rep hx (fun cs e => by cases e) (fun es e => by cases e) (fun cs e => by cases e)
    have hg2 := hB.good.mark p.t (bst p.t p.wait S.L p.bytes).2
    generalize Go.Proofs.Ytlhchnnfgppneaa.Ab.ownK K1 a2 = K2 at *
    have hlen := hB.good.len
    have hrA := rBurst_ok hq2 hB.good.nd hB.good.ok hlen p.bytes p.t p.wait (by omega) h0 (by omega) (by omega)
    repeat' (first | refine spD (fun _ => ?_) (fun _ => ?_) | refine spF (fun _ => ?_) (fun _ => ?_) | (apply gT; (exact rfl)) | (apply off; (exact rfl); (exact rfl)) | (apply condT; (exact rfl)) | (apply condF; (exact rfl)) | ((first | (apply stp0; (exact rfl); (exact rfl)) | (apply stpN0; (exact rfl)) | apply gT | apply condT | ((first | apply bodyQ_d0 | apply bodyQ_d1 | apply bodyQ_d2 | apply bodyQ_d3 | apply bodyQ_d4); (exact .inr rfl); (rw [Try.results7]))); (first | (focus (simp only [go_sem, ↓reduceIte, simprocAttr, t1, t5, t7, t9, t10, hx2] <;> rfl)) | exact rfl); (first | (fail_if_success (show okD _ _ _ _ _ _ _ _ _)) | (first | exact okT | exact okN | exact okE rfl)); (first | (fail_if_success (show Bel _ _)) | (focus first | exact .val _ | (simp [oneOf, Bel_iff_tup, Bel_iff_agg, Bel_iff_rsl, Bel_iff_fn, Bel_iff_rptr, Bel_val]; done)))) | refine thenQ_n ?_ | refine thenQ_r ?_ | refine thenQ_e ?_ | refine blockQ_n ?_ | refine blockQ_r ?_ | refine blockQ_e ?_ | (apply blockQ_o; (exact rfl)) | refine Awp.seq ?_ | refine Awp.skip ?_ | refine Awp.block ?_ | refine reg (fun s => s == 10) ?_ | (apply drwE mixed (fun s => s == 10); (kernel_rfl)) | refine fin ?_ | refine Awp.ret ?_ | refine Awp.exit ?_ | ((first | (apply off; (exact rfl)) | apply condF); (first | (focus (simp only [go_sem, ↓reduceIte, simprocAttr, t1, t5, t7, t9, t10, hx2] <;> rfl)) | exact rfl)))
    all_goals first | contradiction | (exfalso; omega) | skip
    refine cal rfl rfl rfl ?_ (show ACallV Try.prog (.fn (.func 32) []) [.mptr q 0 0, iv p.bytes, iv p.t, iv p.wait] K2 _ from hrA) ?_
    · (first | (focus (simp only [go_sem, ↓reduceIte, simprocAttr, t7]; first | done | rfl)) | rfl)
    rintro v1 K3 ⟨z, rfl, hOz, hq3, hl3, ho3⟩
    have hF3 : FrR q a K2 (Go.Proofs.Ytlhchnnfgppneaa.Ab.ownK K3 z) := ⟨by rw [ownK_len]; exact hl3, fun j hj e1 e2 => by rw [ownK_low hOz.own hj]; exact ho3 j hj e1 e2⟩
    have hR3 := hR2.ref hq2 hF3
    have hB3 : Both (Go.Proofs.Ytlhchnnfgppneaa.Ab.ownK K3 z) F w2 (S.mark p.t (bst p.t p.wait S.L p.bytes).2) q a := ⟨hR3, hg2, hq2.ownK hq3 hOz.own⟩
    repeat' (first | refine spD (fun _ => ?_) (fun _ => ?_) | refine spF (fun _ => ?_) (fun _ => ?_) | (apply gT; (exact rfl)) | (apply off; (exact rfl); (exact rfl)) | (apply condT; (exact rfl)) | (apply condF; (exact rfl)) | ((first | (apply stp0; (exact rfl); (exact rfl)) | (apply stpN0; (exact rfl)) | apply gT | apply condT | ((first | apply bodyQ_d0 | apply bodyQ_d1 | apply bodyQ_d2 | apply bodyQ_d3 | apply bodyQ_d4); (exact .inr rfl); (rw [Try.results7]))); (first | (focus (simp only [go_sem, ↓reduceIte, simprocAttr, t1, t5, t6, t7, t9, t11] <;> rfl)) | exact rfl); (first | (fail_if_success (show okD _ _ _ _ _ _ _ _ _)) | (first | exact okT | exact okN | exact okE rfl)); (first | (fail_if_success (show Bel _ _)) | (focus first | exact .val _ | (simp [oneOf, Bel_iff_tup, Bel_iff_agg, Bel_iff_rsl, Bel_iff_fn, Bel_iff_rptr, Bel_val]; done)))) | refine thenQ_n ?_ | refine thenQ_r ?_ | refine thenQ_e ?_ | refine blockQ_n ?_ | refine blockQ_r ?_ | refine blockQ_e ?_ | (apply blockQ_o; (exact rfl)) | refine Awp.seq ?_ | refine Awp.skip ?_ | refine Awp.block ?_ | refine reg (fun s => s == 10) ?_ | (apply drwE mixed (fun s => s == 10); (kernel_rfl)) | refine fin ?_ | refine Awp.ret ?_ | refine Awp.exit ?_ | ((first | (apply off; (exact rfl)) | apply condF); (first | (focus (simp only [go_sem, ↓reduceIte, simprocAttr, t1, t5, t6, t7, t9, t11] <;> rfl)) | exact rfl)))
    all_goals first | contradiction | (exfalso; omega) | skip
    refine ⟨rfl, ⟨?_, ?_, ?_⟩, F, w2, _, a, (bst p.t p.wait S.L p.bytes).2, 0, _, z, K3, _, ?_, ?_, ?_, ?_, ?_, .fix _, .own hOz.own, hB3, ?_, ?_, ?_⟩
    · (first | (focus (simp only [go_sem, ↓reduceIte, simprocAttr, t1]; first | done | rfl)) | rfl)
    · (first | (focus (simp only [go_sem, ↓reduceIte, simprocAttr, t7]; first | done | rfl)) | rfl)
    · (first | (focus (simp only [go_sem, ↓reduceIte, simprocAttr, t9]; first | done | rfl)) | rfl)
    · (first | (focus (simp only [go_sem, ↓reduceIte, simprocAttr, t5]; first | done | rfl)) | rfl)
    · (first | (focus (simp only [go_sem, ↓reduceIte, simprocAttr, t6]; first | done | rfl)) | rfl)
    · (first | (focus (simp only [go_sem, ↓reduceIte, simprocAttr]; first | done | rfl)) | rfl)
    · (first | (focus (simp only [go_sem, ↓reduceIte, simprocAttr, t11]; first | done | rfl)) | rfl)
    · (first | (focus (simp only [go_sem, ↓reduceIte, simprocAttr]; first | done | rfl)) | rfl)
    · show (S.L.map _).length ≤ i + 1; rw [List.length_map]; omega
    · show 0 ≤ p.t; omega
    · have := bst_len (t := p.t) (wt := p.wait) S.L (p.bytes, []); simp only [List.length_nil] at this; show (bst p.t p.wait S.L p.bytes).2.length ≤ 300; unfold bst; omega

theorem Rep.away {K K' : Hp} {F : Ft} {w : Rw} {S : Bf} {n : Nat} (h : Rep K F w S) (hb : n ≤ F.b) (hr : n ≤ F.r) (hs : n ≤ F.s) (ht : n ≤ F.t) (ho : ∀ j m, w.ord = .msl j 0 m → n ≤ j) (hk : ∀ j, n ≤ j → j < K.length → K'[j]? = K[j]?) : Rep K' F w S := by
  obtain ⟨l1, l2, l3, l4⟩ := h.raw.lt
  refine ⟨⟨?_, ?_, ?_, ?_, h.raw.rs, h.raw.rt, h.raw.st⟩, h.cap, h.used, h.time, h.ord.get fun o m v e hv => ?_, h.mr, h.ms, h.mt⟩
  · rw [hk _ hb l1]; exact h.raw.hb
  · rw [hk _ hr l2]; exact h.raw.hr
  · rw [hk _ hs l3]; exact h.raw.hs
  · rw [hk _ ht l4]; exact h.raw.ht
  · rw [hk _ (ho _ _ e) (List.getElem?_eq_some_iff.1 hv).1]; exact hv

set_option maxRecDepth 8000 in
set_option maxHeartbeats 8000000 in
theorem round3 {J : Hp} {l : List Ax} {ex : Bool} {q i x : Nat} {p : Ax} {F : Ft} {w : Rw} {S : Bf} {a : AV} {err : Int} {T : Env} (hT : Hd14 l ex q i x p F err T) (hB : Both J F w S q a) (hx : J[x]? = some (.cells [p.cs] 65)) (hl : S.L.length ≤ i) (hi : i < 30) (h0 : 0 ≤ S.time)
    (hk8 : 0 ≤ p.kind ∧ p.kind ≤ 255) (hk : p.kind.tmod 4 = 3) : Awp Try.prog 172 none (hdC (tl (tl (inC (hdC (tl (inC (inC (tl (hdC (tl (tl (tl (tl (tl (tl (Try.f7.body.getD .skip))))))))))))))))) T J (Q30 l ex q i) := by
  obtain ⟨t1, t5, t6, t7, t8, t9, t10, t11, t12⟩ := hT
  have hkw := (kinds hk8.1 hk8.2).2
  rw [hk] at hkw
  simp only [Ax.cs, u8v] at hx
  have hcp := Copy_ok hB.rep hB.good
  unfold Try.f7
  simp only [tl, hdC, inC, Option.getD_some]
  repeat' (first | refine spD (fun _ => ?_) (fun _ => ?_) | refine spF (fun _ => ?_) (fun _ => ?_) | (apply gT; (exact rfl)) | (apply off; (exact rfl); (exact rfl)) | (apply condT; (exact rfl)) | (apply condF; (exact rfl)) | ((first | (apply stp0; (exact rfl); (exact rfl)) | (apply stpN0; (exact rfl)) | apply gT | apply condT | ((first | apply bodyQ_d0 | apply bodyQ_d1 | apply bodyQ_d2 | apply bodyQ_d3 | apply bodyQ_d4); (exact .inr rfl); (rw [Try.results7]))); (first | (focus (simp only [go_sem, ↓reduceIte, simprocAttr, t1, t5, t6, t7, t8, t9, t10, t11, t12, hx, hk, hkw] <;> rfl)) | exact rfl); (first | (fail_if_success (show okD _ _ _ _ _ _ _ _ _)) | (first | exact okT | exact okN | exact okE rfl)); (first | (fail_if_success (show Bel _ _)) | (focus first | exact .val _ | (simp [oneOf, Bel_iff_tup, Bel_iff_agg, Bel_iff_rsl, Bel_iff_fn, Bel_iff_rptr, Bel_val]; done)))) | refine thenQ_n ?_ | refine thenQ_r ?_ | refine thenQ_e ?_ | refine blockQ_n ?_ | refine blockQ_r ?_ | refine blockQ_e ?_ | (apply blockQ_o; (exact rfl)) | refine Awp.seq ?_ | refine Awp.skip ?_ | refine Awp.block ?_ | refine reg (fun s => s == 10) ?_ | (apply drwE mixed (fun s => s == 10); (kernel_rfl)) | refine fin ?_ | refine Awp.ret ?_ | refine Awp.exit ?_ | ((first | (apply off; (exact rfl)) | apply condF); (first | (focus (simp only [go_sem, ↓reduceIte, simprocAttr, t1, t5, t6, t7, t8, t9, t10, t11, t12, hx, hk, hkw] <;> rfl)) | exact rfl)))
  all_goals first | contradiction | (exfalso; omega) | skip
  refine cal rfl rfl rfl ?_ (show ACallV Try.prog (.fn (.func 35) []) [.mptr F.b 0 0] J _ from hcp) ?_
  · (first | (focus (simp only [go_sem, ↓reduceIte, simprocAttr, t5]; first | done | rfl)) | rfl)
  rintro v1 K1 ⟨F', w', rfl, hC⟩
  have hR1 := hB.rep.grow hC.gr
  have hx1 := hC.gr.get hx
  have hq1 := hB.rq.grow hC.gr
  have hput := Put_ok hR1 hB.good (by omega) p.r
  simp only [Item.cs] at hput
  repeat' (first | refine spD (fun _ => ?_) (fun _ => ?_) | refine spF (fun _ => ?_) (fun _ => ?_) | (apply gT; (exact rfl)) | (apply off; (exact rfl); (exact rfl)) | (apply condT; (exact rfl)) | (apply condF; (exact rfl)) | ((first | (apply stp0; (exact rfl); (exact rfl)) | (apply stpN0; (exact rfl)) | apply gT | apply condT | ((first | apply bodyQ_d0 | apply bodyQ_d1 | apply bodyQ_d2 | apply bodyQ_d3 | apply bodyQ_d4); (exact .inr rfl); (rw [Try.results7]))); (first | (focus (simp only [go_sem, ↓reduceIte, simprocAttr, t1, t5, t7, t9, t10, hx1] <;> rfl)) | exact rfl); (first | (fail_if_success (show okD _ _ _ _ _ _ _ _ _)) | (first | exact okT | exact okN | exact okE rfl)); (first | (fail_if_success (show Bel _ _)) | (focus first | exact .val _ | (simp [oneOf, Bel_iff_tup, Bel_iff_agg, Bel_iff_rsl, Bel_iff_fn, Bel_iff_rptr, Bel_val]; done)))) | refine thenQ_n ?_ | refine thenQ_r ?_ | refine thenQ_e ?_ | refine blockQ_n ?_ | refine blockQ_r ?_ | refine blockQ_e ?_ | (apply blockQ_o; (exact rfl)) | refine Awp.seq ?_ | refine Awp.skip ?_ | refine Awp.block ?_ | refine reg (fun s => s == 10) ?_ | (apply drwE mixed (fun s => s == 10); (kernel_rfl)) | refine fin ?_ | refine Awp.ret ?_ | refine Awp.exit ?_ | ((first | (apply off; (exact rfl)) | apply condF); (first | (focus (simp only [go_sem, ↓reduceIte, simprocAttr, t1, t5, t7, t9, t10, hx1] <;> rfl)) | exact rfl)))
  all_goals first | contradiction | (exfalso; omega) | skip
  refine cal rfl rfl rfl ?_ (show ACallV Try.prog (.fn (.func 24) []) [.mptr F.b 0 0, .agg [iv p.r.id, iv p.r.cls, iv p.r.made, iv p.r.size, iv p.r.pk]] K1 _ from hput) ?_
  · (first | (focus (simp only [go_sem, ↓reduceIte, simprocAttr, t5]; first | done | rfl)) | rfl)
  rintro v1 K2 ⟨w2, rfl, hR2, hF2, ho2⟩
  have hq2 := hq1.prog hR1 hF2
  obtain ⟨l1, l2, l3, l4⟩ := hB.rep.raw.lt
  have hlow : ∀ j m, w.ord = .msl j 0 m → j < J.length := fun j m e => by
    obtain ⟨v, hv, _⟩ := hB.rep.ord.blk e
    exact (List.getElem?_eq_some_iff.1 hv).1
  have hC2 : Rep K2 F' w' S := hC.rep.away hC.hb hC.hr hC.hs hC.ht hC.row fun j h1 h2 => hF2.old j h2 (by omega) (by omega) (by omega) (by omega) fun m e => by have := hlow j m e; omega
  obtain ⟨g1, g2, g3⟩ := put_good (r := p.r) hB.good (by omega)
  have hA := Ack_ok hR2 g1 [(0, 1073741824)] true (by decide) (by simp [maxLen])
  repeat' (first | refine spD (fun _ => ?_) (fun _ => ?_) | refine spF (fun _ => ?_) (fun _ => ?_) | (apply gT; (exact rfl)) | (apply off; (exact rfl); (exact rfl)) | (apply condT; (exact rfl)) | (apply condF; (exact rfl)) | ((first | (apply stp0; (exact rfl); (exact rfl)) | (apply stpN0; (exact rfl)) | apply gT | apply condT | ((first | apply bodyQ_d0 | apply bodyQ_d1 | apply bodyQ_d2 | apply bodyQ_d3 | apply bodyQ_d4); (exact .inr rfl); (rw [Try.results7]))); (first | (focus (simp only [go_sem, ↓reduceIte, simprocAttr, t1, t5, t7, t9] <;> rfl)) | exact rfl); (first | (fail_if_success (show okD _ _ _ _ _ _ _ _ _)) | (first | exact okT | exact okN | exact okE rfl)); (first | (fail_if_success (show Bel _ _)) | (focus first | exact .val _ | (simp [oneOf, Bel_iff_tup, Bel_iff_agg, Bel_iff_rsl, Bel_iff_fn, Bel_iff_rptr, Bel_val]; done)))) | refine thenQ_n ?_ | refine thenQ_r ?_ | refine thenQ_e ?_ | refine blockQ_n ?_ | refine blockQ_r ?_ | refine blockQ_e ?_ | (apply blockQ_o; (exact rfl)) | refine Awp.seq ?_ | refine Awp.skip ?_ | refine Awp.block ?_ | refine reg (fun s => s == 10) ?_ | (apply drwE mixed (fun s => s == 10); (kernel_rfl)) | refine fin ?_ | refine Awp.ret ?_ | refine Awp.exit ?_ | ((first | (apply off; (exact rfl)) | apply condF); (first | (focus (simp only [go_sem, ↓reduceIte, simprocAttr, t1, t5, t7, t9] <;> rfl)) | exact rfl)))
  all_goals first | contradiction | (exfalso; omega) | skip
  refine cal rfl rfl rfl ?_ (show ACallV Try.prog (.fn (.func 33) []) [.mptr F.b 0 0, .rsl (sps [(0, 1073741824)]) true] K2 _ from hA) ?_
  · (first | (focus (simp only [go_sem, ↓reduceIte, simprocAttr, t5]; first | done | rfl)) | rfl)
  rintro v1 K3 ⟨rfl, w3, hP⟩
  have hq3 := hq2.prog hR2 hP.fr
  have hlen2 : K1.length ≤ K2.length := hF2.len
  have hk3 : ∀ j, J.length ≤ j → j < K1.length → K3[j]? = K2[j]? := by
    intro j h1 h2
    refine hP.fr.old j (by omega) (by omega) (by omega) (by omega) (by omega) fun m e => ?_
    rcases ho2 with ho2 | ho2
    · rw [ho2] at e
      have := hlow j m e
      omega
    · have := ho2 j m e
      omega
  obtain ⟨m1, m2, m3, m4⟩ := hC.rep.raw.lt
  have hC3 : Rep K3 F' w' S := by
    refine ⟨⟨?_, ?_, ?_, ?_, hC2.raw.rs, hC2.raw.rt, hC2.raw.st⟩, hC2.cap, hC2.used, hC2.time, ?_, hC2.mr, hC2.ms, hC2.mt⟩
    · rw [hk3 _ hC.hb m1]; exact hC2.raw.hb
    · rw [hk3 _ hC.hr m2]; exact hC2.raw.hr
    · rw [hk3 _ hC.hs m3]; exact hC2.raw.hs
    · rw [hk3 _ hC.ht m4]; exact hC2.raw.ht
    · refine hC2.ord.get fun o n v e hv => ?_
      obtain ⟨v1, hv1, _⟩ := hC.rep.ord.blk e
      rw [hk3 _ (hC.row _ _ e) (List.getElem?_eq_some_iff.1 hv1).1]; exact hv
  have hB3 : Both K3 F' w' S q a := ⟨hC3, hB.good, hq3⟩
  repeat' (first | refine spD (fun _ => ?_) (fun _ => ?_) | refine spF (fun _ => ?_) (fun _ => ?_) | (apply gT; (exact rfl)) | (apply off; (exact rfl); (exact rfl)) | (apply condT; (exact rfl)) | (apply condF; (exact rfl)) | ((first | (apply stp0; (exact rfl); (exact rfl)) | (apply stpN0; (exact rfl)) | apply gT | apply condT | ((first | apply bodyQ_d0 | apply bodyQ_d1 | apply bodyQ_d2 | apply bodyQ_d3 | apply bodyQ_d4); (exact .inr rfl); (rw [Try.results7]))); (first | (focus (simp only [go_sem, ↓reduceIte, simprocAttr, t1, t5, t6, t7, t8, t9, t11, t12] <;> rfl)) | exact rfl); (first | (fail_if_success (show okD _ _ _ _ _ _ _ _ _)) | (first | exact okT | exact okN | exact okE rfl)); (first | (fail_if_success (show Bel _ _)) | (focus first | exact .val _ | (simp [oneOf, Bel_iff_tup, Bel_iff_agg, Bel_iff_rsl, Bel_iff_fn, Bel_iff_rptr, Bel_val]; done)))) | refine thenQ_n ?_ | refine thenQ_r ?_ | refine thenQ_e ?_ | refine blockQ_n ?_ | refine blockQ_r ?_ | refine blockQ_e ?_ | (apply blockQ_o; (exact rfl)) | refine Awp.seq ?_ | refine Awp.skip ?_ | refine Awp.block ?_ | refine reg (fun s => s == 10) ?_ | (apply drwE mixed (fun s => s == 10); (kernel_rfl)) | refine fin ?_ | refine Awp.ret ?_ | refine Awp.exit ?_ | ((first | (apply off; (exact rfl)) | apply condF); (first | (focus (simp only [go_sem, ↓reduceIte, simprocAttr, t1, t5, t6, t7, t8, t9, t11, t12] <;> rfl)) | exact rfl)))
  all_goals first | contradiction | (exfalso; omega) | skip
  refine ⟨rfl, ⟨?_, ?_, ?_⟩, F', w', S, a, [], err, nilS, nilS, K3, K3, ?_, ?_, ?_, ?_, ?_, .own (lo := 0) .nil, .own (lo := 0) .nil, hB3, by omega, h0, by simp⟩
  · (first | (focus (simp only [go_sem, ↓reduceIte, simprocAttr, t1]; first | done | rfl)) | rfl)
  · (first | (focus (simp only [go_sem, ↓reduceIte, simprocAttr, t7]; first | done | rfl)) | rfl)
  · (first | (focus (simp only [go_sem, ↓reduceIte, simprocAttr, t9]; first | done | rfl)) | rfl)
  · (first | (focus (simp only [go_sem, ↓reduceIte, simprocAttr]; first | done | rfl)) | rfl)
  · (first | (focus (simp only [go_sem, ↓reduceIte, simprocAttr, t6]; first | done | rfl)) | rfl)
  · (first | (focus (simp only [go_sem, ↓reduceIte, simprocAttr, t8]; first | done | rfl)) | rfl)
  · (first | (focus (simp only [go_sem, ↓reduceIte, simprocAttr, t11]; first | done | rfl)) | rfl)
  · (first | (focus (simp only [go_sem, ↓reduceIte, simprocAttr, t12]; first | done | rfl)) | rfl)

end Go.Proofs.Ytlhchnnfgppneaa.Ab
namespace Go.Proofs.Ytlhchnnfgppneaa.Ab
open Go Go.RowKit Go.Proofs
set_option linter.unusedSimpArgs false
set_option linter.unusedVariables false
attribute [local irreducible] Awp wpO thenQ blockQ bodyQ ACalls stepA

set_option maxRecDepth 8000 in
set_option maxHeartbeats 8000000 in
theorem BufferPlays_ok (H : Hp) (c : Int) (l : List Ax) (ex : Bool) (hm : l.length ≤ maxLen) (h8 : ∀ a ∈ l, 0 ≤ a.kind ∧ a.kind ≤ 255) :
    ACalls Try.prog 7 [iv c, .rsl (axs l) ex] H fun v _ => v = bv true := by
  have hpl := axs_len l
  have hlo := long_ok H l ex 30 hm
  cases hlb : longB l 30 with
  | true =>
    rw [hlb] at hlo
    refine ACalls.of_body Try.func7 rfl (by kernel_rfl) (by rw [Try.ntmps7]; simp) ?_; rw [Try.ntmps7]
    repeat' (first | refine spD (fun _ => ?_) (fun _ => ?_) | refine spF (fun _ => ?_) (fun _ => ?_) | (apply gT; (exact rfl)) | (apply off; (exact rfl); (exact rfl)) | (apply condT; (exact rfl)) | (apply condF; (exact rfl)) | ((first | (apply stp0; (exact rfl); (exact rfl)) | (apply stpN0; (exact rfl)) | apply gT | apply condT | ((first | apply bodyQ_d0 | apply bodyQ_d1 | apply bodyQ_d2 | apply bodyQ_d3 | apply bodyQ_d4); (exact .inr rfl); (rw [Try.results7]))); (first | (focus (simp only [go_sem, ↓reduceIte, simprocAttr, hpl] <;> rfl)) | exact rfl); (first | (fail_if_success (show okD _ _ _ _ _ _ _ _ _)) | (first | exact okT | exact okN | exact okE rfl)); (first | (fail_if_success (show Bel _ _)) | (focus first | exact .val _ | (simp [oneOf, Bel_iff_tup, Bel_iff_agg, Bel_iff_rsl, Bel_iff_fn, Bel_iff_rptr, Bel_val]; done)))) | (apply calTo0; (exact rfl); (iterate 2 (simp only [go_sem, ↓reduceIte, simprocAttr, hpl]; rfl)); (first | exact hlo | exact fine_ok _); (first | exact okT | exact okN | exact okE rfl)) | refine thenQ_n ?_ | refine thenQ_r ?_ | refine thenQ_e ?_ | refine blockQ_n ?_ | refine blockQ_r ?_ | refine blockQ_e ?_ | (apply blockQ_o; (exact rfl)) | refine Awp.seq ?_ | refine Awp.skip ?_ | refine Awp.block ?_ | refine reg (fun s => s == 10) ?_ | (apply drwE mixed (fun s => s == 10); (kernel_rfl)) | refine fin ?_ | refine Awp.ret ?_ | refine Awp.exit ?_ | ((first | (apply off; (exact rfl)) | apply condF); (first | (focus (simp only [go_sem, ↓reduceIte, simprocAttr, hpl] <;> rfl)) | exact rfl)))
    all_goals first | contradiction | (exfalso; omega) | skip
    all_goals exact bodyQ_eq (.inr rfl) (by rw [Try.results7]; simp only [go_sem, ↓reduceIte, simprocAttr]; rfl) rfl
  | false =>
    rw [hlb] at hlo
    obtain ⟨hl30, hs30⟩ := longB_no hlb
    by_cases hc : newOk' c
    · have hnew := New_ok H c hc.1 hc.2
      refine ACalls.of_body Try.func7 rfl (by kernel_rfl) (by rw [Try.ntmps7]; simp) ?_; rw [Try.ntmps7]
      repeat' (first | refine spD (fun _ => ?_) (fun _ => ?_) | refine spF (fun _ => ?_) (fun _ => ?_) | (apply gT; (exact rfl)) | (apply off; (exact rfl); (exact rfl)) | (apply condT; (exact rfl)) | (apply condF; (exact rfl)) | ((first | (apply stp0; (exact rfl); (exact rfl)) | (apply stpN0; (exact rfl)) | apply gT | apply condT | ((first | apply bodyQ_d0 | apply bodyQ_d1 | apply bodyQ_d2 | apply bodyQ_d3 | apply bodyQ_d4); (exact .inr rfl); (rw [Try.results7]))); (first | (focus (simp only [go_sem, ↓reduceIte, simprocAttr, hpl] <;> rfl)) | exact rfl); (first | (fail_if_success (show okD _ _ _ _ _ _ _ _ _)) | (first | exact okT | exact okN | exact okE rfl)); (first | (fail_if_success (show Bel _ _)) | (focus first | exact .val _ | (simp [oneOf, Bel_iff_tup, Bel_iff_agg, Bel_iff_rsl, Bel_iff_fn, Bel_iff_rptr, Bel_val]; done)))) | (apply calTo0; (exact rfl); (iterate 2 (simp only [go_sem, ↓reduceIte, simprocAttr, hpl]; rfl)); (first | exact hlo); (first | exact okT | exact okN | exact okE rfl)) | refine thenQ_n ?_ | refine thenQ_r ?_ | refine thenQ_e ?_ | refine blockQ_n ?_ | refine blockQ_r ?_ | refine blockQ_e ?_ | (apply blockQ_o; (exact rfl)) | refine Awp.seq ?_ | refine Awp.skip ?_ | refine Awp.block ?_ | refine reg (fun s => s == 10) ?_ | (apply drwE mixed (fun s => s == 10); (kernel_rfl)) | refine fin ?_ | refine Awp.ret ?_ | refine Awp.exit ?_ | ((first | (apply off; (exact rfl)) | apply condF); (first | (focus (simp only [go_sem, ↓reduceIte, simprocAttr, hpl] <;> rfl)) | exact rfl)))
      all_goals first | contradiction | (exfalso; omega) | skip
      refine cal rfl rfl rfl ?_ (show ACallV Try.prog (.fn (.func 16) []) [iv c] H _ from hnew) ?_
      · (first | (focus (simp only [go_sem, ↓reduceIte, simprocAttr]; first | done | rfl)) | rfl)
      rintro v1 K ⟨F, w, rfl, hR, e1, e2, e3⟩
      clear e1 e2 e3
      have hrn := rnewOk K c hc
      have hg : Good ⟨c, 0, 0, []⟩ := ⟨by simp [idsL], by simp, rfl, by simp, hc, .nil⟩
      have hB0 : Both (K ++ [.cells [[iv c, iv 0, nilS]] 73]) F w ⟨c, 0, 0, []⟩ K.length nilS := ⟨hR.grow ((Grow.refl K).app _), hg, ⟨get_new _ _, .nil⟩⟩
      repeat' (first | refine spD (fun _ => ?_) (fun _ => ?_) | refine spF (fun _ => ?_) (fun _ => ?_) | (apply gT; (exact rfl)) | (apply off; (exact rfl); (exact rfl)) | (apply condT; (exact rfl)) | (apply condF; (exact rfl)) | ((first | (apply stp0; (exact rfl); (exact rfl)) | (apply stpN0; (exact rfl)) | apply gT | apply condT | ((first | apply bodyQ_d0 | apply bodyQ_d1 | apply bodyQ_d2 | apply bodyQ_d3 | apply bodyQ_d4); (exact .inr rfl); (rw [Try.results7]))); (first | (focus (simp only [go_sem, ↓reduceIte, simprocAttr, hpl] <;> rfl)) | exact rfl); (first | (fail_if_success (show okD _ _ _ _ _ _ _ _ _)) | (first | exact okT | exact okN | exact okE rfl)); (first | (fail_if_success (show Bel _ _)) | (focus first | exact .val _ | (simp [oneOf, Bel_iff_tup, Bel_iff_agg, Bel_iff_rsl, Bel_iff_fn, Bel_iff_rptr, Bel_val]; done)))) | (apply calTo0; (exact rfl); (iterate 2 (simp only [go_sem, ↓reduceIte, simprocAttr, hpl]; rfl)); (first | exact hrn); (first | exact okT | exact okN | exact okE rfl)) | refine thenQ_n ?_ | refine thenQ_r ?_ | refine thenQ_e ?_ | refine blockQ_n ?_ | refine blockQ_r ?_ | refine blockQ_e ?_ | (apply blockQ_o; (exact rfl)) | refine Awp.seq ?_ | refine Awp.skip ?_ | refine Awp.block ?_ | refine reg (fun s => s == 10) ?_ | (apply drwE mixed (fun s => s == 10); (kernel_rfl)) | refine fin ?_ | refine Awp.ret ?_ | refine Awp.exit ?_ | ((first | (apply off; (exact rfl)) | apply condF); (first | (focus (simp only [go_sem, ↓reduceIte, simprocAttr, hpl] <;> rfl)) | exact rfl)))
      all_goals first | contradiction | (exfalso; omega) | skip
      generalize K ++ [AObj.cells [[iv c, iv 0, nilS]] 73] = K0 at *
      generalize K.length = q at *
      refine Awp.loop (ι := Nat) (fun i T' K => i ≤ l.length ∧ (T' 1 = .rsl (axs l) ex ∧ T' 7 = .mptr q 0 0 ∧ T' 9 = iv i) ∧ ∃ F w S a err, T' 5 = .mptr F.b 0 0 ∧ T' 6 = iv err ∧ T' 8 = iv err ∧ Both K F w S q a ∧ S.L.length ≤ i ∧ 0 ≤ S.time) (fun i => l.length - i) 0 ?_ ?_
      · refine ⟨Nat.zero_le _, ⟨?_, ?_, ?_⟩, F, w, _, nilS, 0, ?_, ?_, ?_, hB0, by simp, by simp⟩
        · (first | (focus (simp only [go_sem, ↓reduceIte, simprocAttr]; first | done | rfl)) | rfl)
        · (first | (focus (simp only [go_sem, ↓reduceIte, simprocAttr]; first | done | rfl)) | rfl)
        · (first | (focus (simp only [go_sem, ↓reduceIte, simprocAttr]; first | done | rfl)) | rfl)
        · (first | (focus (simp only [go_sem, ↓reduceIte, simprocAttr]; first | done | rfl)) | rfl)
        · (first | (focus (simp only [go_sem, ↓reduceIte, simprocAttr]; first | done | rfl)) | rfl)
        · (first | (focus (simp only [go_sem, ↓reduceIte, simprocAttr]; first | done | rfl)) | rfl)
      clear hB0 hR hg hrn hnew K K0 F w
      rintro i T K ⟨hi, ⟨t1, t7, t9⟩, F, w, S, a, err, t5, t6, t8, hB, hle, h0⟩
      by_cases hlt : i < l.length
      · obtain ⟨p, hp⟩ := nth hlt
        have hpc := axs_at hp
        have hpm := List.mem_of_getElem? hp
        have hk8 := h8 p hpm
        have hps := hs30 p hpm
        have hi30 : i < 30 := by omega
        have hsu := wsucc hlt hm
        repeat' ((fail_if_success (apply stopR (id := 14))); (fail_if_success (apply stopS (id := 14))); first | refine spD (fun _ => ?_) (fun _ => ?_) | refine spF (fun _ => ?_) (fun _ => ?_) | (apply gT; (exact rfl)) | (apply off; (exact rfl); (exact rfl)) | (apply condT; (exact rfl)) | (apply condF; (exact rfl)) | ((first | (apply stp0; (exact rfl); (exact rfl)) | (apply stpN0; (exact rfl)) | apply gT | apply condT | ((first | apply bodyQ_d0 | apply bodyQ_d1 | apply bodyQ_d2 | apply bodyQ_d3 | apply bodyQ_d4); (exact .inr rfl); (rw [Try.results7]))); (first | (focus (simp only [go_sem, ↓reduceIte, simprocAttr, Int.ofNat_lt.2 hlt, t1, t5, t6, t7, t8, t9, hpl, hpc] <;> rfl)) | exact rfl); (first | (fail_if_success (show okD _ _ _ _ _ _ _ _ _)) | (first | exact okT | exact okN | exact okE rfl)); (first | (fail_if_success (show Bel _ _)) | (focus first | exact .val _ | (simp [oneOf, Bel_iff_tup, Bel_iff_agg, Bel_iff_rsl, Bel_iff_fn, Bel_iff_rptr, Bel_val]; done)))) | refine thenQ_n ?_ | refine thenQ_r ?_ | refine thenQ_e ?_ | refine blockQ_n ?_ | refine blockQ_r ?_ | refine blockQ_e ?_ | (apply blockQ_o; (exact rfl)) | refine Awp.seq ?_ | refine Awp.skip ?_ | refine Awp.block ?_ | refine reg (fun s => s == 10) ?_ | (apply drwE mixed (fun s => s == 10); (kernel_rfl)) | refine fin ?_ | refine Awp.ret ?_ | refine Awp.exit ?_ | ((first | (apply off; (exact rfl)) | apply condF); (first | (focus (simp only [go_sem, ↓reduceIte, simprocAttr, Int.ofNat_lt.2 hlt, t1, t5, t6, t7, t8, t9, hpl, hpc] <;> rfl)) | exact rfl)))
        all_goals first | contradiction | skip
        refine Awp.withT (fun T' => Hd14 l ex q i K.length p F err T') ⟨by (first | (focus (simp only [go_sem, ↓reduceIte, simprocAttr, t1]; first | done | rfl)) | rfl), by (first | (focus (simp only [go_sem, ↓reduceIte, simprocAttr, t5]; first | done | rfl)) | rfl), by (first | (focus (simp only [go_sem, ↓reduceIte, simprocAttr, t6]; first | done | rfl)) | rfl), by (first | (focus (simp only [go_sem, ↓reduceIte, simprocAttr, t7]; first | done | rfl)) | rfl), by (first | (focus (simp only [go_sem, ↓reduceIte, simprocAttr, t8]; first | done | rfl)) | rfl), by (first | (focus (simp only [go_sem, ↓reduceIte, simprocAttr, t9]; first | done | rfl)) | rfl), by (first | (focus (simp only [go_sem, ↓reduceIte, simprocAttr]; first | done | rfl)) | rfl), by (first | (focus (simp only [go_sem, ↓reduceIte, simprocAttr]; first | done | rfl)) | rfl), by (first | (focus (simp only [go_sem, ↓reduceIte, simprocAttr]; first | done | rfl)) | rfl)⟩ ?_
        clear t1 t5 t6 t7 t8 t9 T
        rintro T hT
        have hBJ := hB.grow ((Grow.refl K).app [.cells [p.cs] 65])
        have hxJ := get_new K (.cells [p.cs] 65)
        have hrd : Awp Try.prog 172 none (hdC (tl (tl (inC (hdC (tl (inC (inC (tl (hdC (tl (tl (tl (tl (tl (tl (Try.f7.body.getD .skip))))))))))))))))) T (K ++ [.cells [p.cs] 65]) (Q30 l ex q i) := by
          rcases (kinds hk8.1 hk8.2).1 with hk | hk | hk | hk
          · exact round0 hT hBJ hxJ hle hi30 h0 hk8 hk
          · exact round1 hT hBJ hxJ hle hi30 h0 hk8 hk
          · exact round2 hT hBJ hxJ hle hi30 h0 hps hk8 hk
          · exact round3 hT hBJ hxJ hle hi30 h0 hk8 hk
        refine Awp.mono hrd ?_
        clear hrd hT hBJ hxJ hB hle h0 T K F w S a err
        rintro e T K ⟨rfl, ⟨t1, t7, t9⟩, F, w, S, a, x, err, z1, z2, K1, K2, t5, t6, t8, t11, t12, f1, f2, hB, hle, h0, hx3⟩
        refine thenQ_n ?_
        refine Awp.frz 11 f1 t11 ?_
        refine Awp.frz 12 f2 (by (first | (focus (simp only [go_sem, ↓reduceIte, simprocAttr, t12]; first | done | rfl)) | rfl)) ?_
        refine Awp.withT (fun T' => T' 1 = .rsl (axs l) ex ∧ T' 5 = .mptr F.b 0 0 ∧ T' 6 = iv err ∧ T' 7 = .mptr q 0 0 ∧ T' 8 = iv err ∧ T' 9 = iv i ∧ T' 11 = .rsl (ints x) false ∧ T' 12 = .rsl (ints x) false) ⟨by (first | (focus (simp only [go_sem, ↓reduceIte, simprocAttr, t1]; first | done | rfl)) | rfl), by (first | (focus (simp only [go_sem, ↓reduceIte, simprocAttr, t5]; first | done | rfl)) | rfl), by (first | (focus (simp only [go_sem, ↓reduceIte, simprocAttr, t6]; first | done | rfl)) | rfl), by (first | (focus (simp only [go_sem, ↓reduceIte, simprocAttr, t7]; first | done | rfl)) | rfl), by (first | (focus (simp only [go_sem, ↓reduceIte, simprocAttr, t8]; first | done | rfl)) | rfl), by (first | (focus (simp only [go_sem, ↓reduceIte, simprocAttr, t9]; first | done | rfl)) | rfl), by (first | (focus (simp only [go_sem, ↓reduceIte, simprocAttr]; first | done | rfl)) | rfl), by (first | (focus (simp only [go_sem, ↓reduceIte, simprocAttr]; first | done | rfl)) | rfl)⟩ ?_
        clear t1 t5 t6 t7 t8 t9 t11 t12 f1 f2 z1 z2 K1 K T
        rintro T ⟨t1, t5, t6, t7, t8, t9, t11, t12⟩
        have c1 := longs_ok K2 x false false (by simp only [maxLen]; omega)
        have c2 := Held_ok hB.rep hB.good
        have hlen := hB.good.len
        have c3 := heldM_ok hB.rq.row false (by simp only [maxLen]; omega)
        have c4 := Used_ok hB.rep.raw
        have c5 := rUsed_ok hB.rq hB.good.ok hlen
        rw [hB.rep.used] at c4
        rw [show sumH S.L = S.used from hB.good.sum.symm] at c5
        have hbq := hB.rq.hb
        repeat' (first | refine spD (fun _ => ?_) (fun _ => ?_) | refine spF (fun _ => ?_) (fun _ => ?_) | (apply gT; (exact rfl)) | (apply off; (exact rfl); (exact rfl)) | (apply condT; (exact rfl)) | (apply condF; (exact rfl)) | ((first | (apply stp0; (exact rfl); (exact rfl)) | (apply stpN0; (exact rfl)) | apply gT | apply condT | ((first | apply bodyQ_d0 | apply bodyQ_d1 | apply bodyQ_d2 | apply bodyQ_d3 | apply bodyQ_d4); (exact .inr rfl); (rw [Try.results7]))); (first | (focus (simp only [go_sem, ↓reduceIte, simprocAttr, t1, t5, t6, t7, t8, t9, t11, t12, hbq, hsu] <;> rfl)) | exact rfl); (first | (fail_if_success (show okD _ _ _ _ _ _ _ _ _)) | (first | exact okT | exact okN | exact okE rfl)); (first | (fail_if_success (show Bel _ _)) | (focus first | exact .val _ | (simp [oneOf, Bel_iff_tup, Bel_iff_agg, Bel_iff_rsl, Bel_iff_fn, Bel_iff_rptr, Bel_val]; done)))) | (apply calTo0; (exact rfl); (iterate 2 (simp only [go_sem, ↓reduceIte, simprocAttr, t1, t5, t6, t7, t8, t9, t11, t12, hbq, hsu]; rfl)); (first | exact c1 | exact c2 | exact c3 | exact c4 | exact c5); (first | exact okT | exact okN | exact okE rfl)) | refine thenQ_n ?_ | refine thenQ_r ?_ | refine thenQ_e ?_ | refine blockQ_n ?_ | refine blockQ_r ?_ | refine blockQ_e ?_ | (apply blockQ_o; (exact rfl)) | refine Awp.seq ?_ | refine Awp.skip ?_ | refine Awp.block ?_ | refine reg (fun s => s == 10) ?_ | (apply drwE mixed (fun s => s == 10); (kernel_rfl)) | refine fin ?_ | refine Awp.ret ?_ | refine Awp.exit ?_ | ((first | (apply off; (exact rfl)) | apply condF); (first | (focus (simp only [go_sem, ↓reduceIte, simprocAttr, t1, t5, t6, t7, t8, t9, t11, t12, hbq, hsu] <;> rfl)) | exact rfl)))
        all_goals first | contradiction | skip
        refine ⟨i + 1, ⟨hlt, ⟨?_, ?_, ?_⟩, F, w, S, a, err, ?_, ?_, ?_, hB, hle, h0⟩, Nat.sub_lt_sub_left hlt (Nat.lt_succ_self i)⟩
        · (first | (focus (simp only [go_sem, ↓reduceIte, simprocAttr, t1]; first | done | rfl)) | rfl)
        · (first | (focus (simp only [go_sem, ↓reduceIte, simprocAttr, t7]; first | done | rfl)) | rfl)
        · (first | (focus (simp only [go_sem, ↓reduceIte, simprocAttr, hsu]; first | done | rfl)) | rfl)
        · (first | (focus (simp only [go_sem, ↓reduceIte, simprocAttr, t5]; first | done | rfl)) | rfl)
        · (first | (focus (simp only [go_sem, ↓reduceIte, simprocAttr, t6]; first | done | rfl)) | rfl)
        · (first | (focus (simp only [go_sem, ↓reduceIte, simprocAttr, t8]; first | done | rfl)) | rfl)
      · have hie : i = l.length := Nat.le_antisymm hi (Nat.not_lt.1 hlt)
        subst hie
        repeat' (first | refine spD (fun _ => ?_) (fun _ => ?_) | refine spF (fun _ => ?_) (fun _ => ?_) | (apply gT; (exact rfl)) | (apply off; (exact rfl); (exact rfl)) | (apply condT; (exact rfl)) | (apply condF; (exact rfl)) | ((first | (apply stp0; (exact rfl); (exact rfl)) | (apply stpN0; (exact rfl)) | apply gT | apply condT | ((first | apply bodyQ_d0 | apply bodyQ_d1 | apply bodyQ_d2 | apply bodyQ_d3 | apply bodyQ_d4); (exact .inr rfl); (rw [Try.results7]))); (first | (focus (simp only [go_sem, ↓reduceIte, simprocAttr, Int.lt_irrefl, t1, t5, t7, t9, hpl] <;> rfl)) | exact rfl); (first | (fail_if_success (show okD _ _ _ _ _ _ _ _ _)) | (first | exact okT | exact okN | exact okE rfl)); (first | (fail_if_success (show Bel _ _)) | (focus first | exact .val _ | (simp [oneOf, Bel_iff_tup, Bel_iff_agg, Bel_iff_rsl, Bel_iff_fn, Bel_iff_rptr, Bel_val]; done)))) | (apply calTo0; (exact rfl); (iterate 2 (simp only [go_sem, ↓reduceIte, simprocAttr, Int.lt_irrefl, t1, t5, t7, t9, hpl]; rfl)); (first | exact fine_ok _); (first | exact okT | exact okN | exact okE rfl)) | refine thenQ_n ?_ | refine thenQ_r ?_ | refine thenQ_e ?_ | refine blockQ_n ?_ | refine blockQ_r ?_ | refine blockQ_e ?_ | (apply blockQ_o; (exact rfl)) | refine Awp.seq ?_ | refine Awp.skip ?_ | refine Awp.block ?_ | refine reg (fun s => s == 10) ?_ | (apply drwE mixed (fun s => s == 10); (kernel_rfl)) | refine fin ?_ | refine Awp.ret ?_ | refine Awp.exit ?_ | ((first | (apply off; (exact rfl)) | apply condF); (first | (focus (simp only [go_sem, ↓reduceIte, simprocAttr, Int.lt_irrefl, t1, t5, t7, t9, hpl] <;> rfl)) | exact rfl)))
        all_goals first | contradiction | (exfalso; omega) | skip
        all_goals exact bodyQ_eq (.inr rfl) (by rw [Try.results7]; simp only [go_sem, ↓reduceIte, simprocAttr]; rfl) rfl
    · have hn1 := newNo H c hc
      have hn2 := rnewNo H c hc
      refine ACalls.of_body Try.func7 rfl (by kernel_rfl) (by rw [Try.ntmps7]; simp) ?_; rw [Try.ntmps7]
      repeat' (first | refine spD (fun _ => ?_) (fun _ => ?_) | refine spF (fun _ => ?_) (fun _ => ?_) | (apply gT; (exact rfl)) | (apply off; (exact rfl); (exact rfl)) | (apply condT; (exact rfl)) | (apply condF; (exact rfl)) | ((first | (apply stp0; (exact rfl); (exact rfl)) | (apply stpN0; (exact rfl)) | apply gT | apply condT | ((first | apply bodyQ_d0 | apply bodyQ_d1 | apply bodyQ_d2 | apply bodyQ_d3 | apply bodyQ_d4); (exact .inr rfl); (rw [Try.results7]))); (first | (focus (simp only [go_sem, ↓reduceIte, simprocAttr, hpl] <;> rfl)) | exact rfl); (first | (fail_if_success (show okD _ _ _ _ _ _ _ _ _)) | (first | exact okT | exact okN | exact okE rfl)); (first | (fail_if_success (show Bel _ _)) | (focus first | exact .val _ | (simp [oneOf, Bel_iff_tup, Bel_iff_agg, Bel_iff_rsl, Bel_iff_fn, Bel_iff_rptr, Bel_val]; done)))) | (apply calTo0; (exact rfl); (iterate 2 (simp only [go_sem, ↓reduceIte, simprocAttr, hpl]; rfl)); (first | exact hlo | exact hn1 | exact hn2 | exact fine_ok _); (first | exact okT | exact okN | exact okE rfl)) | refine thenQ_n ?_ | refine thenQ_r ?_ | refine thenQ_e ?_ | refine blockQ_n ?_ | refine blockQ_r ?_ | refine blockQ_e ?_ | (apply blockQ_o; (exact rfl)) | refine Awp.seq ?_ | refine Awp.skip ?_ | refine Awp.block ?_ | refine reg (fun s => s == 10) ?_ | (apply drwE mixed (fun s => s == 10); (kernel_rfl)) | refine fin ?_ | refine Awp.ret ?_ | refine Awp.exit ?_ | ((first | (apply off; (exact rfl)) | apply condF); (first | (focus (simp only [go_sem, ↓reduceIte, simprocAttr, hpl] <;> rfl)) | exact rfl)))
      all_goals first | contradiction | (exfalso; omega) | skip
      all_goals exact bodyQ_eq (.inr rfl) (by rw [Try.results7]; simp only [go_sem, ↓reduceIte, simprocAttr]; rfl) rfl

end Go.Proofs.Ytlhchnnfgppneaa.Ab
namespace Go.Proofs.Ytlhchnnfgppneaa.Ab
open Go Go.RowKit Go.ChangeShapes Go.WideShapes

/-- the cells of a type -/
inductive Sh where
  | bool
  | int (k : IntKind)
  | str
  | sl (bytes : Nat) (e : List Sh)

inductive Fits : List Sh → List AV → Prop
  | nil : Fits [] []
  | bool {b : Bool} {s : List Sh} {as : List AV} (h : Fits s as) : Fits (.bool :: s) (.val (.bool b) :: as)
  | int {k : IntKind} {n : Int} {s : List Sh} {as : List AV} (hn : (Lit.int k n).wf = true) (h : Fits s as) : Fits (.int k :: s) (.val (.int k n) :: as)
  | str {x : ByteArray} {s : List Sh} {as : List AV} (hx : x.size ≤ reachBytes) (h : Fits s as) : Fits (.str :: s) (.val (.string x) :: as)
  | sl {b : Nat} {e s : List Sh} {es : List (List AV)} {ex : Bool} {as : List AV} (he : ∀ x ∈ es, Fits e x) (hb : es.length * b ≤ reachBytes) (hm : es.length ≤ maxLen) (h : Fits s as) : Fits (.sl b e :: s) (.rsl es ex :: as)

theorem Fits.length {s : List Sh} {as : List AV} (h : Fits s as) : as.length = s.length := by
  induction h <;> simp_all

theorem Fits.append {s t : List Sh} {as bs : List AV} (h : Fits s as) (k : Fits t bs) : Fits (s ++ t) (as ++ bs) := by
  induction h with
  | nil => exact k
  | bool _ ih => exact .bool ih
  | int hn _ ih => exact .int hn ih
  | str hx _ ih => exact .str hx ih
  | sl he hb hm _ _ ih => exact .sl he hb hm ih

def fieldsS (sh : TypeId → Option (List Sh)) (P : Program) : Nat → List Field → Option (List Sh)
  | _, [] => some []
  | off, f :: r => if f.offset = off then match sh f.type with
    | some s => if s.length = P.cellsOf f.type then (fieldsS sh P (off + s.length) r).map (s ++ ·) else none
    | none => none
    else none

def shape (P : Program) : Nat → TypeId → Option (List Sh)
  | 0, _ => none
  | n + 1, t => match P.underlying t with
    | some .bool => some [.bool]
    | some (.int k) => some [.int k]
    | some .string => some [.str]
    | some (.slice e) => match shape P n e with
      | some s => if s.length = P.cellsOf e ∧ 0 < P.cellsOf e then some [.sl (P.bytesOf e) s] else none
      | none => none
    | some (.struct fs) => match fieldsS (shape P n) P 0 fs.toList with
      | some s => if s.length = P.cellsOf t then some s else none
      | none => none
    | some (.array m e) => match shape P n e with
      | some s => if s.length = P.cellsOf e ∧ m * P.cellsOf e = P.cellsOf t then some (List.replicate m s).flatten else none
      | none => none
    | _ => none

variable {H : Type} {enc : TypeId × Value → H} {P : Program} {W : World}

/-- the cells as abstract ones -/
def Told (g : Gh) (as : List AV) (cs : List Value) : Prop := as.length = cs.length ∧ ∀ (i : Nat) (c : AV) (v : Value), as[i]? = some c → cs[i]? = some v → R g c v

theorem Told.one {g : Gh} {a : AV} {v : Value} (h : R g a v) : Told g [a] [v] :=
  ⟨rfl, fun i c u hc hu => by
    cases i with
    | zero => simp at hc hu; subst hc; subst hu; exact h
    | succ i => simp at hc⟩

theorem Told.append {g : Gh} {as bs : List AV} {cs ds : List Value} (h : Told g as cs) (k : Told g bs ds) : Told g (as ++ bs) (cs ++ ds) := by
  refine ⟨by simp [h.1, k.1], fun i c v hc hv => ?_⟩
  rw [List.getElem?_append] at hc hv
  rw [← h.1] at hv
  split at hc
  · rename_i hi
    rw [if_pos hi] at hv
    exact h.2 i c v hc hv
  · rename_i hi
    rw [if_neg hi] at hv
    exact k.2 _ c v hc hv

theorem all_append {l m : List Nat} {p : Nat → Bool} (h : (l ++ m).all p = true) : l.all p = true ∧ m.all p = true := by
  rw [List.all_append, Bool.and_eq_true] at h; exact h

theorem weightsAll_get : ∀ (l : List (DataW H)) (e : TypeId), (DataW.weightsAll P e l).all (· ≤ reachBytes) = true → ∀ d ∈ l, (d.weights P e).all (· ≤ reachBytes) = true
  | [], _, _, d, hd => by cases hd
  | x :: r, e, h, d, hd => by
    rw [DataW.weightsAll] at h
    obtain ⟨h1, h2⟩ := all_append h
    rcases List.mem_cons.1 hd with rfl | hd
    · exact h1
    · exact weightsAll_get r e h2 d hd

theorem exists_list {α : Type} {q : Nat → α → Prop} : ∀ (n : Nat), (∀ i, i < n → ∃ a, q i a) → ∃ l : List α, l.length = n ∧ ∀ i a, l[i]? = some a → q i a
  | 0, _ => ⟨[], rfl, fun i a h => by simp at h⟩
  | n + 1, h => by
    obtain ⟨l, hl, hq⟩ := exists_list n fun i hi => h i (by omega)
    obtain ⟨a, ha⟩ := h n (by omega)
    refine ⟨l ++ [a], by simp [hl], fun i x hx => ?_⟩
    rw [List.getElem?_append] at hx
    split at hx
    · exact hq i x hx
    · rename_i hi
      have e : i - l.length = 0 := by
        rcases Nat.eq_zero_or_pos (i - l.length) with h | h
        · exact h
        · rw [List.getElem?_eq_none (by simp; omega)] at hx; cases hx
      rw [e] at hx
      simp at hx
      subst hx
      have : i = n := by omega
      subst this
      exact ha

theorem cells_get {a : Addr} {n : Nat} {cs : List Value} (h : W.cells? 0 a n = some cs) : cs.length = n ∧ ∀ j, j < n → W.cell? (a.add j) = cs[j]? := by
  unfold World.cells? at h
  rw [if_pos (Nat.zero_le _)] at h
  exact ⟨by simpa using mapM_some_length h, fun j hj => mapM_some_get h j j (by simp [hj])⟩

theorem cell_none {a : Addr} {v : Value} (h : W.cell? a = some v) : a.spot = none := by
  unfold World.cell? at h
  split at h
  · split at h
    · cases h
    · rename_i hs; cases hh : a.spot with
      | none => rfl
      | some x => rw [hh] at hs; exact absurd rfl hs
  · cases h

/-- a value is read: in a world all of whose cells never turn any more -/
theorem read {g : Gh} (hg : ∀ b o v, W.cell? ⟨b, o, none⟩ = some v → g.fz b o = some v) :
    ∀ (n fuel : Nat) (t : TypeId) (cs : List Value) (d : DataW H) (ps : List MemPlace) (sh : List Sh), DataW.trod enc P W 0 (fun _ => true) true fuel t cs = some (d, ps) → shape P n t = some sh →
      (d.weights P t).all (· ≤ reachBytes) = true → ∃ as, Fits sh as ∧ Told g as cs := by
  intro n
  induction n with
  | zero => intro fuel t cs d ps sh _ h; cases h
  | succ n ih =>
    intro fuel t cs d ps sh hd hs hw
    unfold shape at hs
    split at hs
    · rename_i hu
      cases hs
      obtain ⟨b, rfl, _⟩ := DataW.trod_bool hu hd
      exact ⟨[.val (.bool b)], .bool .nil, .one (.val _)⟩
    · rename_i k hu
      cases hs
      obtain ⟨m, rfl, _, hn⟩ := DataW.trod_int hu hd
      exact ⟨[.val (.int k m)], .int hn .nil, .one (.val _)⟩
    · rename_i hu
      cases hs
      obtain ⟨x, rfl, hx, hm⟩ := DataW.trod_string hu hd
      simp only [Prod.mk.injEq] at hx
      obtain ⟨rfl, _⟩ := hx
      have : x.size ≤ reachBytes := by simpa [DataW.weights] using hw
      exact ⟨[.val (.string x)], .str this .nil, .one (.val _)⟩
    · rename_i e hu
      split at hs
      · rename_i s hse
        split at hs
        · rename_i hif
          obtain ⟨hk, hpos⟩ := hif
          cases hs
          rcases DataW.trod_slice hu hd with ⟨rfl, _⟩ | ⟨a, len, cap, elems, rest, m, _, rfl, hx, _, hl, hm, hlen, hel, hsp, _⟩
          · exact ⟨[.rsl [] true], .sl (by simp) (by simp) (by simp) .nil, .one (.rnil none)⟩
          · simp only [Prod.mk.injEq] at hx
            obtain ⟨rfl, _⟩ := hx
            obtain ⟨hrl, hrest⟩ := hsp rfl
            simp only [DataW.weights, hu, List.all_cons, Bool.and_eq_true, decide_eq_true_eq, List.length_map] at hw
            obtain ⟨hwl, hww⟩ := hw
            obtain ⟨hwe, _⟩ := all_append hww
            rcases Nat.eq_zero_or_pos cap with h0 | h0
            · have : len = 0 := by omega
              subst h0; subst this
              exact ⟨[.rsl [] true], .sl (by simp) (by simp) (by simp) .nil, .one (.rnil _)⟩
            -- the address has no spot
            obtain ⟨b, o, hab⟩ : ∃ b o, a = ⟨b, o, none⟩ := by
              have h1 : ∃ y, W.cells? 0 (a.add (0 * P.cellsOf e)) (P.cellsOf e) = some y := by
                rcases Nat.eq_zero_or_pos len with hl0 | hl0
                · have := hrest 0 (by omega)
                  rw [hl0, Nat.add_zero] at this
                  have h2 : 0 < rest.length := by omega
                  rw [List.getElem?_eq_getElem h2, Option.bind_eq_some_iff] at this
                  obtain ⟨y, hy, _⟩ := this
                  exact ⟨y, hy⟩
                · have := hel 0 hl0
                  have h2 : 0 < elems.length := by omega
                  rw [List.getElem?_eq_getElem h2, Option.bind_eq_some_iff] at this
                  obtain ⟨y, hy, _⟩ := this
                  exact ⟨y, hy⟩
              obtain ⟨y, hy⟩ := h1
              obtain ⟨hy1, hy2⟩ := cells_get hy
              have := hy2 0 hpos
              have h3 : 0 < y.length := by omega
              rw [List.getElem?_eq_getElem h3] at this
              have := cell_none this
              obtain ⟨b, o, sp⟩ := a
              simp [Addr.add] at this
              subst this
              exact ⟨b, o, rfl⟩
            subst hab
            have each : ∀ i, i < len → ∃ p : List AV × List Value, Fits s p.1 ∧ Told g p.1 p.2 ∧ p.2.length = P.cellsOf e ∧ ∀ j, j < P.cellsOf e → W.cell? ⟨b, o + i * P.cellsOf e + j, none⟩ = p.2[j]? := by
              intro i hi
              have := hel i hi
              have h2 : i < elems.length := by omega
              rw [List.getElem?_eq_getElem h2, Option.bind_eq_some_iff] at this
              obtain ⟨y, hy, hy'⟩ := this
              have hmem : elems[i].1 ∈ elems.map (·.1) := List.mem_map_of_mem (List.getElem_mem h2)
              obtain ⟨as, h3, h4⟩ := ih m e y elems[i].1 elems[i].2 s (by rw [hy']) hse (weightsAll_get _ e hwe _ hmem)
              obtain ⟨hy1, hy2⟩ := cells_get hy
              refine ⟨(as, y), h3, h4, hy1, fun j hj => ?_⟩
              have := hy2 j hj
              rw [add_none, add_none] at this
              exact this
            obtain ⟨l, hll, hlq⟩ := exists_list len each
            have hfits : ∀ x ∈ l.map (·.1), Fits s x := by
              intro x hx
              obtain ⟨p, hp, rfl⟩ := List.mem_map.1 hx
              obtain ⟨i, hi⟩ := List.getElem?_of_mem hp
              exact (hlq i p hi).1
            refine ⟨[.rsl (l.map (·.1)) (cap == len)], .sl hfits ?_ ?_ .nil, .one ?_⟩
            · simp only [List.length_map, hll]
              refine Nat.le_trans (Nat.mul_le_mul_right _ ?_) hwl
              omega
            · simp only [List.length_map, hll]; omega
            · refine R.rsl (k := P.cellsOf e) (fun i j => ((l[i]?).bind fun p => p.2[j]?).getD undef) (by simp [hll]) hl (by simp) hm (fun i x hx => ?_) (fun i j hi hj => ?_) (fun i x j c hx hc => ?_)
              · have := (hfits x (List.mem_of_getElem? hx)).length
                rw [this, hk]
              · simp only [List.length_map] at hi
                have hp : l[i]? = some l[i] := List.getElem?_eq_getElem hi
                obtain ⟨_, _, q1, q2⟩ := hlq i _ hp
                refine hg _ _ _ ?_
                rw [q2 j hj, hp, Option.bind_some, List.getElem?_eq_getElem (by omega), Option.getD_some]
              · rw [List.getElem?_map, Option.map_eq_some_iff] at hx
                obtain ⟨p, hp, rfl⟩ := hx
                obtain ⟨_, q0, q1, q2⟩ := hlq i _ hp
                have hj : j < p.2.length := by rw [← q0.1]; exact (List.getElem?_eq_some_iff.1 hc).1
                rw [hp, Option.bind_some, List.getElem?_eq_getElem hj, Option.getD_some]
                exact q0.2 j c _ hc (List.getElem?_eq_getElem hj)
        · cases hs
      · cases hs
    · rename_i fs hu
      split at hs
      · rename_i s hsf
        split at hs
        · rename_i hlen
          cases hs
          obtain ⟨xs, m, _, hx, hcl, hxl, hxs⟩ := DataW.trod_struct hu hd
          simp only [Prod.mk.injEq] at hx
          obtain ⟨rfl, _⟩ := hx
          simp only [DataW.weights, hu] at hw
          have key : ∀ (l : List Field) (off i : Nat) (sh' : List Sh), fs.toList.drop i = l → fieldsS (shape P n) P off l = some sh' →
              (DataW.weightsEach P (l.map (·.type)) ((xs.drop i).map (·.1))).all (· ≤ reachBytes) = true → ∃ as, Fits sh' as ∧ Told g as ((cs.drop off).take sh'.length) := by
            intro l
            induction l with
            | nil =>
              intro off i sh' _ h _
              cases h
              exact ⟨[], .nil, by simp [Told]⟩
            | cons f r ihl =>
              intro off i sh' hdr h hwt
              unfold fieldsS at h
              split at h
              · rename_i hoff
                split at h
                · rename_i s hs1
                  split at h
                  · rename_i hsl
                    obtain ⟨s2, hs2, rfl⟩ := Option.map_eq_some_iff.1 h
                    have hfi : fs[i]? = some f := by
                      have : (fs.toList.drop i)[0]? = some f := by rw [hdr]; rfl
                      rw [List.getElem?_drop] at this
                      simpa using this
                    have hxi := hxs i f hfi
                    have hi : i < xs.length := by
                      rw [hxl]
                      exact (Array.getElem?_eq_some_iff.1 hfi).1
                    rw [List.getElem?_eq_getElem hi] at hxi
                    have hdrop : xs.drop i = xs[i] :: xs.drop (i + 1) := List.drop_eq_getElem_cons hi
                    rw [hdrop, List.map_cons, List.map_cons, DataW.weightsEach] at hwt
                    obtain ⟨w1, w2⟩ := all_append hwt
                    subst hoff
                    obtain ⟨as, a1, a2⟩ := ih m f.type _ xs[i].1 xs[i].2 s (by rw [hxi]) hs1 w1
                    obtain ⟨bs, b1, b2⟩ := ihl (f.offset + s.length) (i + 1) s2 (by rw [← List.drop_drop, hdr]; rfl) hs2 w2
                    refine ⟨as ++ bs, a1.append b1, ?_⟩
                    rw [← hsl] at a2
                    have : (cs.drop f.offset).take (s ++ s2).length = (cs.drop f.offset).take s.length ++ (cs.drop (f.offset + s.length)).take s2.length := by
                      rw [List.length_append, List.take_add, List.drop_drop]
                    rw [this]
                    exact a2.append b2
                  · cases h
                · cases h
              · cases h
          obtain ⟨as, a1, a2⟩ := key fs.toList 0 0 sh rfl hsf (by simpa using hw)
          refine ⟨as, a1, ?_⟩
          rw [hlen, ← hcl] at a2
          simpa using a2
        · cases hs
      · cases hs
    · rename_i k e hu
      split at hs
      · rename_i s hse
        split at hs
        · rename_i hif
          obtain ⟨hk, hck⟩ := hif
          cases hs
          obtain ⟨xs, m, _, hx, hcl, hxl, hxs⟩ := DataW.trod_array hu hd
          simp only [Prod.mk.injEq] at hx
          obtain ⟨rfl, _⟩ := hx
          simp only [DataW.weights, hu] at hw
          have key : ∀ (c i : Nat), i + c = k → ∃ as, Fits (List.replicate c s).flatten as ∧ Told g as ((cs.drop (i * P.cellsOf e)).take (c * P.cellsOf e)) := by
            intro c
            induction c with
            | zero => intro i _; exact ⟨[], .nil, by simp [Told]⟩
            | succ c ihc =>
              intro i hi
              have hxi := hxs i (by omega)
              have hi' : i < xs.length := by omega
              rw [List.getElem?_eq_getElem hi'] at hxi
              have hmem : xs[i].1 ∈ xs.map (·.1) := List.mem_map_of_mem (List.getElem_mem hi')
              obtain ⟨as, a1, a2⟩ := ih m e _ xs[i].1 xs[i].2 s (by rw [hxi]) hse (weightsAll_get _ e hw _ hmem)
              obtain ⟨bs, b1, b2⟩ := ihc (i + 1) (by omega)
              refine ⟨as ++ bs, by rw [List.replicate_succ, List.flatten_cons]; exact a1.append b1, ?_⟩
              have : (cs.drop (i * P.cellsOf e)).take ((c + 1) * P.cellsOf e) = (cs.drop (i * P.cellsOf e)).take (P.cellsOf e) ++ (cs.drop ((i + 1) * P.cellsOf e)).take (c * P.cellsOf e) := by
                rw [Nat.add_mul c, Nat.one_mul, Nat.add_comm, List.take_add, List.drop_drop, Nat.add_mul i, Nat.one_mul]
              rw [this]
              exact a2.append b2
          obtain ⟨as, a1, a2⟩ := key k 0 (by omega)
          refine ⟨as, a1, ?_⟩
          rw [hck, ← hcl] at a2
          simpa using a2
        · cases hs
      · cases hs
    · cases hs

/-! ### the arguments of a call -/

def isRow (P : Program) (t : TypeId) : Bool :=
  match P.underlying t with
  | some (.struct _) | some (.array _ _) => true
  | _ => false

def sig (P : Program) : List TypeId → Option (List (Bool × List Sh))
  | [] => some []
  | t :: ts => match shape P 20 t with
    | some s => if isRow P t = true ∨ s.length = 1 then (sig P ts).map ((isRow P t, s) :: ·) else none
    | none => none

def ArgsFit : List (Bool × List Sh) → List AV → Prop
  | [], [] => True
  | (true, s) :: r, .agg as :: l => Fits s as ∧ ArgsFit r l
  | (false, s) :: r, a :: l => Fits s [a] ∧ ArgsFit r l
  | _, _ => False

def LTold (g : Gh) (as : List AV) (vs : List Value) : Prop := as.length = vs.length ∧ ∀ (i : Nat) (c : AV) (v : Value), as[i]? = some c → vs[i]? = some v → R g c v

theorem readAll {g : Gh} (hg : ∀ b o v, W.cell? ⟨b, o, none⟩ = some v → g.fz b o = some v) {base : Nat} : ∀ (ts : List TypeId) (vs : List Value) (ds : List (DataW H)) (ps : List MemPlace) (sh : List (Bool × List Sh)),
    DataW.TrodAll enc P W 0 (fun _ => true) true ts vs ds ps → (∀ (j : Nat) t v, ts[j]? = some t → vs[j]? = some v → Value.okWide P W .any base t v) → sig P ts = some sh →
    (DataW.weightsEach P ts ds).all (· ≤ reachBytes) = true → ∃ as, ArgsFit sh as ∧ LTold g as vs
  | [], vs, ds, ps, sh, h, _, hs, _ => by
    obtain ⟨rfl, rfl, rfl⟩ := trodAll_nil h
    cases hs
    exact ⟨[], trivial, rfl, fun i c v hc => by simp at hc⟩
  | t :: ts, vs, ds, ps, sh, h, hok, hs, hw => by
    obtain ⟨v, vs', d, ds', p, q, rfl, rfl, rfl, ⟨fuel, hd⟩, hrest⟩ := trodAll_cons h
    unfold sig at hs
    split at hs
    · rename_i s hse
      split at hs
      · rename_i hif
        obtain ⟨sh', hs', rfl⟩ := Option.map_eq_some_iff.1 hs
        rw [DataW.weightsEach] at hw
        obtain ⟨w1, w2⟩ := all_append hw
        obtain ⟨as, h1, h2⟩ := readAll hg ts vs' ds' q sh' hrest (fun j t v ht hv => hok (j + 1) t v (by simpa using ht) (by simpa using hv)) hs' w2
        obtain ⟨bs, b1, b2⟩ := read hg 20 fuel t _ d p s hd hse w1
        have hokv := hok 0 t v rfl rfl
        have cons : ∀ a, R g a v → LTold g (a :: as) (v :: vs') := fun a ha => ⟨by simp [h2.1], fun i c u hc hu => by
          cases i with
          | zero => simp at hc hu; subst hc; subst hu; exact ha
          | succ i => exact h2.2 i c u (by simpa using hc) (by simpa using hu)⟩
        cases hr : isRow P t with
        | true =>
          have hagg : ∃ cs, v = .agg cs := by
            unfold isRow at hr
            unfold Value.okWide at hokv
            split at hr
            · rename_i hu; rw [hu] at hokv; obtain ⟨cs, rfl, _⟩ := hokv; exact ⟨cs, rfl⟩
            · rename_i hu; rw [hu] at hokv; obtain ⟨cs, rfl, _⟩ := hokv; exact ⟨cs, rfl⟩
            · cases hr
          obtain ⟨cs, rfl⟩ := hagg
          have b2' : Told g bs cs.toList := by simpa [Value.cells] using b2
          refine ⟨.agg bs :: as, ⟨b1, h1⟩, cons _ (.agg (by simpa using b2'.1) fun i c u hc hu => b2'.2 i c u hc (by simpa using hu))⟩
        | false =>
          have hl1 : s.length = 1 := by rw [hr] at hif; simpa using hif
          have hb1 := b1.length
          rw [hl1] at hb1
          match bs, hb1 with
          | [a], _ =>
            have hcv : v.cells.toList.length = 1 := by rw [← b2.1]; rfl
            refine ⟨a :: as, ⟨b1, h1⟩, cons a ?_⟩
            have hnagg : v.cells = #[v] := by
              cases v with
              | agg cs =>
                exfalso
                have h0 : Value.okWide P W .any base t (.agg cs) := hok 0 t _ rfl rfl
                unfold isRow at hr
                unfold Value.okWide Cell.okWide Cell.ok at h0
                cases hu : P.underlying t with
                | none => simp [hu] at h0
                | some d => cases d <;> simp [hu] at h0 hr
              | _ => rfl
            refine b2.2 0 a v rfl ?_
            rw [hnagg]; rfl
      · cases hs
    · cases hs

def memGh (W : World) : Gh := { fz := fun b o => W.cell? ⟨b, o, none⟩, ph := fun _ => none, ks := fun _ => 0, cp := fun _ => 0, mr := fun _ => False }

theorem Sim.start (W : World) : Sim W.heap.size W (memGh W) [] W where
  below := .refl _ _
  low := Nat.le_refl _
  fz := fun _ _ _ h => h
  dom := fun _ _ h => by cases h
  pos := fun _ _ h => by cases h
  sep := fun b x ob h => by simp at h
  inj := fun b c x ob oc h => by simp at h
  obj := fun b ob h => by simp at h
  marks := fun r h => False.elim h

theorem trodAll_kept {W' : World} (hl : laidOutB P = true) (hb : Below W.heap.size W W') : ∀ (ts : List TypeId) (vs : List Value) (ds : List (DataW H)) (ps : List MemPlace), (∀ t ∈ ts, P.readableRec t = true ∧ t < P.types.size) →
    DataW.TrodAll enc P W 0 (fun _ => true) true ts vs ds ps → DataW.TrodAll enc P W' 0 (fun b => decide (b < W.heap.size)) true ts vs ds ps
  | [], vs, ds, ps, _, h => by
    obtain ⟨rfl, rfl, rfl⟩ := trodAll_nil h
    exact trodAll_mk0
  | t :: ts, vs, ds, ps, ht, h => by
    obtain ⟨v, vs', d, ds', p, q, rfl, rfl, rfl, hd, hrest⟩ := trodAll_cons h
    have hlt : ∀ x ∈ p, x.block < W.heap.size := by obtain ⟨m, hm⟩ := hd; exact DataW.trod_lt m _ _ _ hm
    exact ⟨p, q, Below.trod hl (ht t (by simp)).1 (ht t (by simp)).2 hd hb hlt, trodAll_kept hl hb ts vs' ds' q (fun t' h' => ht t' (by simp [h'])) hrest, rfl⟩

theorem length_trodAll : ∀ (ts : List TypeId) (vs : List Value) (ds : List (DataW H)) (ps : List MemPlace), DataW.TrodAll enc P W 0 (fun _ => true) true ts vs ds ps → ds.length = ts.length
  | [], vs, ds, ps, h => by obtain ⟨rfl, rfl, rfl⟩ := trodAll_nil h; rfl
  | t :: ts, vs, ds, ps, h => by
    obtain ⟨v, vs', d, ds', p, q, rfl, rfl, rfl, hd, hrest⟩ := trodAll_cons h
    simp [length_trodAll ts vs' ds' q hrest]

/-- the row of a law, out of its contract -/
theorem contract_of {f : FuncId} {fn : Func} {s : ChangeSpec} (hl : laidOutB P = true) (hp : fn.params.toList.all (fun t => P.readableRec t && decide (t < P.types.size)) = true) {sh : List (Bool × List Sh)} (hsig : sig P fn.params.toList = some sh)
    {rt : TypeId} (hres : fn.resultTypes = #[rt]) (hu : P.underlying rt = some .bool) (hvars : s.vars = []) (hspec : ∀ ds : List (DataW H), ds.length = fn.params.size → s.fn H ds = { results := [.lit (.bool true)], args := ds })
    (h : ∀ as, ArgsFit sh as → ACalls P f as [] fun v _ => v = .val (.bool true)) {W : World} {base : Nat} {args : Array Value} {ds gs : List (DataW H)} {before : List MemPlace}
    (hval : ∀ (j : Nat) t v, fn.params[j]? = some t → args[j]? = some v → Value.okWide P W .any base t v) (hW : DataW.Whole enc P fn.params.toList s.vars false W args.toList ds gs before)
    (hsz : (DataW.weightsEach P (fn.params.toList ++ s.plain.varTypes P) (ds ++ gs)).all (· ≤ reachBytes) = true) :
    Calls P f args W fun e W' => ∃ v, e = .returned v ∧ s.post enc P fn false true false false W args v W' := by
  have hW' := hW
  obtain ⟨p, q, hA, hV, rfl, hfz, hnd⟩ := hW
  rw [hvars] at hV
  obtain ⟨rfl, rfl⟩ := trodVars_none hV
  have hlen := length_trodAll _ _ _ _ hA
  have hsz' : (DataW.weightsEach P fn.params.toList ds).all (· ≤ reachBytes) = true := by
    have : ∀ (ts us : List TypeId) (ds : List (DataW H)), ds.length = ts.length → DataW.weightsEach P (ts ++ us) (ds ++ []) = DataW.weightsEach P ts ds := by
      intro ts
      induction ts with
      | nil => intro us ds hd; cases ds with
        | nil => cases us <;> simp [DataW.weightsEach]
        | cons d r => cases hd
      | cons t ts ih => intro us ds hd; cases ds with
        | nil => cases hd
        | cons d r => simp only [List.cons_append, DataW.weightsEach]; rw [ih us r (by simpa using hd)]
    rwa [this _ _ _ hlen] at hsz
  have hpp : ∀ t ∈ fn.params.toList, P.readableRec t = true ∧ t < P.types.size := by
    intro t ht
    have := List.all_eq_true.1 hp t ht
    simpa using this
  obtain ⟨as, h1, h2⟩ := readAll (g := memGh W) (fun _ _ _ h => h) (base := base) _ _ _ _ _ hA (fun j t v ht hv => hval j t v (by simpa using ht) (by simpa using hv)) hsig hsz'
  have hcall := (h as h1).2 W.heap.size W (memGh W) W args (Sim.start W) ⟨by simpa using h2.1, fun i c v hc hv => h2.2 i c v hc (by simpa using hv)⟩
  refine (callsIn_wide.1 hcall).mono fun e W' ⟨v, a, H', g', he, ha, _, S, hR⟩ => ?_
  subst he; subst ha
  cases hR
  refine ⟨_, rfl, ds, [], p ++ [], [], p, [], hW', ?_, ?_, ?_, S.below.frame _, fun h => by cases h⟩
  · rw [List.append_nil, hspec ds (by simpa using hlen), hres]
    exact trodAll_mk1 (shut_bool hu _)
  · rw [List.append_nil, hspec ds (by simpa using hlen)]
    exact trodAll_kept hl S.below _ _ _ _ hpp hA
  · rw [List.append_nil, hspec ds (by simpa using hlen), hvars]
    rfl

end Go.Proofs.Ytlhchnnfgppneaa.Ab

namespace Go.Proofs.Ytlhchnnfgppneaa.Ab
open Go Go.RowKit

abbrev I : Sh := .int .i64

theorem fitK {k : IntKind} {s : List Sh} {as : List AV} (h : Fits (.int k :: s) as) : ∃ n bs, as = .val (.int k n) :: bs ∧ (Lit.int k n).wf = true ∧ Fits s bs := by
  cases h; exact ⟨_, _, rfl, by assumption, by assumption⟩
theorem fit0 {as : List AV} (h : Fits [] as) : as = [] := by cases h; rfl
theorem fitL {b : Nat} {e s : List Sh} {as : List AV} (h : Fits (.sl b e :: s) as) : ∃ es ex bs, as = .rsl es ex :: bs ∧ (∀ x ∈ es, Fits e x) ∧ es.length * b ≤ reachBytes ∧ es.length ≤ maxLen ∧ Fits s bs := by
  cases h; exact ⟨_, _, _, rfl, by assumption, by assumption, by assumption, by assumption⟩

/-- each row of a list is that of something -/
theorem fitMap {α : Type} {e : List Sh} (f : α → List AV) (hf : ∀ x, Fits e x → ∃ a, x = f a) : ∀ es : List (List AV), (∀ x ∈ es, Fits e x) → ∃ l : List α, es = l.map f
  | [], _ => ⟨[], rfl⟩
  | x :: es, h => by
    obtain ⟨a, rfl⟩ := hf x (h _ (by simp))
    obtain ⟨l, rfl⟩ := fitMap f hf es fun y hy => h y (by simp [hy])
    exact ⟨a :: l, rfl⟩

theorem argT {s : List Sh} {r : List (Bool × List Sh)} {as : List AV} (h : ArgsFit ((true, s) :: r) as) : ∃ bs l, as = .agg bs :: l ∧ Fits s bs ∧ ArgsFit r l := by
  match as, h with
  | .agg bs :: l, h => exact ⟨bs, l, rfl, h⟩
theorem argF {s : List Sh} {r : List (Bool × List Sh)} {as : List AV} (h : ArgsFit ((false, s) :: r) as) : ∃ a l, as = a :: l ∧ Fits s [a] ∧ ArgsFit r l := by
  match as, h with
  | a :: l, h => exact ⟨a, l, rfl, h⟩
theorem arg0 {as : List AV} (h : ArgsFit [] as) : as = [] := by
  match as, h with
  | [], _ => rfl

end Go.Proofs.Ytlhchnnfgppneaa.Ab
namespace Go.Proofs.Ytlhchnnfgppneaa.Ab
open Go Go.RowKit Go.Proofs
set_option linter.unusedSimpArgs false
set_option linter.unusedVariables false
attribute [local irreducible] Awp wpO thenQ blockQ bodyQ ACalls stepA

abbrev U8' : Sh := .int .u8
abbrev I64' : Sh := .int .i64
theorem wfK' {k : IntKind} {n : Int} (h : (Lit.int k n).wf = true) : k.min ≤ n ∧ n ≤ k.max := by simpa [Lit.wf] using h
theorem spFit (x : List AV) (h : Fits [I64', I64'] x) : ∃ p : Int × Int, x = [iv p.1, iv p.2] := by
  obtain ⟨a, _, rfl, ha, h⟩ := fitK h
  obtain ⟨b, _, rfl, hb, h⟩ := fitK h
  obtain rfl := fit0 h
  exact ⟨(a, b), rfl⟩
theorem spsFit : ∀ (es : List (List AV)), (∀ x ∈ es, Fits [I64', I64'] x) → ∃ l : List (Int × Int), es = sps l
  | [], _ => ⟨[], rfl⟩
  | x :: es, h => by
    obtain ⟨p, rfl⟩ := spFit x (h x (by simp))
    obtain ⟨l, rfl⟩ := spsFit es fun y hy => h y (by simp [hy])
    exact ⟨p :: l, rfl⟩
theorem axFit (x : List AV) (h : Fits [U8', I64', I64', I64', I64', I64', I64', I64', I64', .sl 2 [I64', I64']] x) : ∃ p : Ax, x = p.cs ∧ (0 ≤ p.kind ∧ p.kind ≤ 255) := by
  obtain ⟨a, _, rfl, ha, h⟩ := fitK h
  obtain ⟨b, _, rfl, hb, h⟩ := fitK h
  obtain ⟨c, _, rfl, hc, h⟩ := fitK h
  obtain ⟨d, _, rfl, hd, h⟩ := fitK h
  obtain ⟨e, _, rfl, he, h⟩ := fitK h
  obtain ⟨f, _, rfl, hf, h⟩ := fitK h
  obtain ⟨g, _, rfl, hg, h⟩ := fitK h
  obtain ⟨i, _, rfl, hi, h⟩ := fitK h
  obtain ⟨j, _, rfl, hj, h⟩ := fitK h
  obtain ⟨es, ex, bs, e1, h3, _, hm, h4⟩ := fitL h
  subst e1
  obtain ⟨s, rfl⟩ := spsFit es h3
  obtain rfl := fit0 h4
  exact ⟨⟨a, ⟨b, c, d, e, f⟩, g, i, j, s, ex⟩, rfl, wfK' ha⟩
theorem axsFit : ∀ (es : List (List AV)), (∀ x ∈ es, Fits [U8', I64', I64', I64', I64', I64', I64', I64', I64', .sl 2 [I64', I64']] x) → ∃ l : List Ax, es = axs l ∧ ∀ p ∈ l, 0 ≤ p.kind ∧ p.kind ≤ 255
  | [], _ => ⟨[], rfl, by simp⟩
  | x :: es, h => by
    obtain ⟨p, rfl, hp⟩ := axFit x (h x (by simp))
    obtain ⟨l, rfl, hl⟩ := axsFit es fun y hy => h y (by simp [hy])
    exact ⟨p :: l, rfl, by simpa using ⟨hp, hl⟩⟩
def axS : Bool × List Sh := (false, [.sl 10 [U8', I64', I64', I64', I64', I64', I64', I64', I64', .sl 2 [I64', I64']]])
theorem axsArg {r : List (Bool × List Sh)} {xs : List AV} (h : ArgsFit (axS :: r) xs) : ∃ (v : List Ax) (ex : Bool) (l : List AV), xs = .rsl (axs v) ex :: l ∧ (∀ p ∈ v, 0 ≤ p.kind ∧ p.kind ≤ 255) ∧ v.length ≤ maxLen ∧ ArgsFit r l := by
  obtain ⟨a, l, rfl, h1, h2⟩ := argF h
  obtain ⟨es, ex, bs, e, h3, _, hm, h4⟩ := fitL h1
  cases e
  obtain ⟨v, rfl, hv⟩ := axsFit es h3
  exact ⟨v, ex, l, rfl, hv, by rwa [axs_len] at hm, h2⟩
theorem intArg' {k : IntKind} {r : List (Bool × List Sh)} {xs : List AV} (h : ArgsFit ((false, [.int k]) :: r) xs) : ∃ (n : Int) (l : List AV), xs = .val (.int k n) :: l ∧ (Lit.int k n).wf = true ∧ ArgsFit r l := by
  obtain ⟨a, l, rfl, h1, h2⟩ := argF h
  obtain ⟨n, bs, e, h3, h4⟩ := fitK h1
  cases e
  exact ⟨n, l, rfl, h3, h2⟩

def sh7 : List (Bool × List Sh) := [(false, [I64']), axS]
theorem law7 : ∀ xs, ArgsFit sh7 xs → ACalls Try.prog 7 xs [] fun v _ => v = .val (.bool true) := by
  intro xs h0
  obtain ⟨c, l, rfl, hc, h1⟩ := intArg' h0
  obtain ⟨v, ex, l, rfl, hv, hm, h2⟩ := axsArg h1
  obtain rfl := arg0 h2
  exact BufferPlays_ok [] c v ex hm hv

end Go.Proofs.Ytlhchnnfgppneaa.Ab
