/- The law BufferOnce. The law BufferOnce: all rounds. The law BufferOnce, for all arguments. -/
import Derived.Test.YtlhchnnfgppneaaYQ
import Derived.Test.YtlhchnnfgppneaaYC
namespace Go.Proofs.Ytlhchnnfgppneaa.Ab
open Go Go.RowKit Go.Proofs
set_option linter.unusedSimpArgs false
set_option linter.unusedVariables false
attribute [local irreducible] Awp wpO thenQ blockQ bodyQ ACalls stepA

theorem tms2 {c : Int} (h0 : 0 ≤ c) : 1 ≤ 1 + c.tmod 2000 ∧ 1 + c.tmod 2000 ≤ 2000 := by
  have := tmod_in h0 (show (0 : Int) < 2000 by omega)
  omega
/-- memory behind a burst whose row is told once for all -/
theorem Lk.burst {K K1 : Hp} {F : Ft} {w w' : Rw} {S S' : Bf} {m : Nat} {R : List Item} {al gn : Nat} {G : Int → Option Item} {g : List Bool} (h : Lk K F w S m R al gn G g) {a : AV} {o : List Int} (hR : Rep K1 F w' S') (hF : Fr F K K1) (ho : w'.ord = w.ord) (hO : OutR K.length K1 a o) : Lk (ownK K1 a) F w' S' m R al gn G g ∧ FrO F w K (ownK K1 a) := by
  have hFO := hF.o (w := w) |>.ownA hO.own
  exact ⟨h.prog (h.rep.outA hR ho hO) hFO, hFO⟩

set_option maxRecDepth 8000 in
set_option maxHeartbeats 16000000 in
theorem once_round {K : Hp} {rs : List Rd} {ex : Bool} {F : Ft} {w : Rw} {S : Bf} {m : Nat} {R : List Item} {al gn : Nat} {G : Int → Option Item} {g : List Bool} {n i : Nat} {rb : Nat} {p : Rd} {T : Env} (hT : E12 rs ex F.b m al gn n i rb T) (hK : Lk K F w S m R al gn G g) (hI : Inv G n g S R i)
    (hx : K[rb]? = some (.cells [p.cs] 104)) (hp : p.in_) (hn : n ≤ 78) (hi : i ≤ 13) (hl : rs.length ≤ 12) (hlast : rs.length ≤ i → p.D = false ∧ p.L = 0) :
    Awp Try.prog 313 none (tl (tl (inC (hdC (tl (inC (inC (tl (hdC (tl (tl (tl (tl (tl (tl (tl (tl (Try.f12.body.getD .skip)))))))))))))))))) T K (Q12 rs ex F m al gn i rb p i fun n' S' _ _ _ => n' ≤ n + 6 ∧ (rs.length ≤ i → S'.L = [])) := by
  unfold Try.f12
  simp only [tl, hdC, inC, Option.getD_some]
  refine Awp.seq ?_
  refine Awp.mono (once1 hT hK hI hx hp hn) ?_
  clear hT hK hI hx K w S G g T
  rintro e T K ⟨rfl, n', w, S, R, G, g, ⟨t1, t5, t7, t8, t9, t10, t11, t12⟩, hK, hI, hx, hn', hRR⟩
  refine thenQ_n ?_
  have hpl := rds_len rs
  have hx0 := hx
  simp only [Rd.cs, u16v] at hx
  have wB : IntKind.i64.wrap p.B = p.B := w64 (by have := hp.1; omega) (by have := hp.1; omega)
  have room0 : ∃ room, (0 ≤ room ∧ room ≤ 16777216) ∧ (rs.length ≤ i → room = 16777216) ∧ room = if rs.length ≤ i then 16777216 else p.B := by
    have hB := hp.1
    by_cases c : rs.length ≤ i
    · exact ⟨16777216, by omega, fun _ => rfl, by rw [if_pos c]⟩
    · exact ⟨p.B, by omega, fun h => absurd h c, by rw [if_neg c]⟩
  obtain ⟨room, r1, r2, r3⟩ := room0
  refine Awp.seq (Awp.mono (Q := fun e T' K' => e = .normal ∧ K' = K ∧ E12 rs ex F.b m al gn n' i rb T' ∧ T' 18 = iv p.B) ?_ ?_)
  · repeat' (first | refine spD (fun _ => ?_) (fun _ => ?_) | refine spF (fun _ => ?_) (fun _ => ?_) | (apply gT; (exact rfl)) | (apply off; (exact rfl); (exact rfl)) | (apply condT; (exact rfl)) | (apply condF; (exact rfl)) | ((first | (apply stp0; (exact rfl); (exact rfl)) | (apply stpN0; (exact rfl)) | apply gT | apply condT | ((first | apply bodyQ_d0 | apply bodyQ_d1 | apply bodyQ_d2 | apply bodyQ_d3 | apply bodyQ_d4); (exact .inr rfl); (rw [Try.results12]))); (first | (focus (simp only [go_sem, ↓reduceIte, simprocAttr, t12, hx, wB] <;> rfl)) | exact rfl); (first | (fail_if_success (show okD _ _ _ _ _ _ _ _ _)) | (first | exact okT | exact okN | exact okE rfl)); (first | (fail_if_success (show Bel _ _)) | (focus first | exact .val _ | (simp [oneOf, Bel_iff_tup, Bel_iff_agg, Bel_iff_rsl, Bel_iff_fn, Bel_iff_rptr, Bel_val]; done)))) | refine thenQ_n ?_ | refine thenQ_r ?_ | refine thenQ_e ?_ | refine blockQ_n ?_ | refine blockQ_r ?_ | refine blockQ_e ?_ | (apply blockQ_o; (exact rfl)) | refine Awp.seq ?_ | refine Awp.skip ?_ | refine Awp.block ?_ | refine reg (fun s => s == 12 || s == 14 || s == 22 || s == 31) ?_ | (apply drwE mixed (fun s => s == 12 || s == 14 || s == 22 || s == 31); (kernel_rfl)) | refine fin ?_ | refine Awp.ret ?_ | refine Awp.exit ?_ | ((first | (apply off; (exact rfl)) | apply condF); (first | (focus (simp only [go_sem, ↓reduceIte, simprocAttr, t12, hx, wB] <;> rfl)) | exact rfl)))
    all_goals first | contradiction | skip
    exact ⟨rfl, rfl, ⟨by (first | (focus (simp only [go_sem, ↓reduceIte, simprocAttr, t1]; first | done | rfl)) | rfl), by (first | (focus (simp only [go_sem, ↓reduceIte, simprocAttr, t5]; first | done | rfl)) | rfl), by (first | (focus (simp only [go_sem, ↓reduceIte, simprocAttr, t7]; first | done | rfl)) | rfl), by (first | (focus (simp only [go_sem, ↓reduceIte, simprocAttr, t8]; first | done | rfl)) | rfl), by (first | (focus (simp only [go_sem, ↓reduceIte, simprocAttr, t9]; first | done | rfl)) | rfl), by (first | (focus (simp only [go_sem, ↓reduceIte, simprocAttr, t10]; first | done | rfl)) | rfl), by (first | (focus (simp only [go_sem, ↓reduceIte, simprocAttr, t11]; first | done | rfl)) | rfl), by (first | (focus (simp only [go_sem, ↓reduceIte, simprocAttr, t12]; first | done | rfl)) | rfl)⟩, by (first | (focus (simp only [go_sem, ↓reduceIte, simprocAttr]; first | done | rfl)) | rfl)⟩
  clear t1 t5 t7 t8 t9 t10 t11 t12 T
  rintro e T K' ⟨rfl, rfl, ⟨t1, t5, t7, t8, t9, t10, t11, t12⟩, t18⟩
  refine thenQ_n ?_
  refine Awp.seq (Awp.mono (Q := fun e T' K2 => e = .normal ∧ K2 = K' ∧ E12 rs ex F.b m al gn n' i rb T' ∧ T' 18 = iv room) ?_ ?_)
  · by_cases c : rs.length ≤ i
    · have c2 : (i : Int) ≥ (rs.length : Int) := by omega
      rw [if_pos c] at r3
      repeat' (first | refine spD (fun _ => ?_) (fun _ => ?_) | refine spF (fun _ => ?_) (fun _ => ?_) | (apply gT; (exact rfl)) | (apply off; (exact rfl); (exact rfl)) | (apply condT; (exact rfl)) | (apply condF; (exact rfl)) | ((first | (apply stp0; (exact rfl); (exact rfl)) | (apply stpN0; (exact rfl)) | apply gT | apply condT | ((first | apply bodyQ_d0 | apply bodyQ_d1 | apply bodyQ_d2 | apply bodyQ_d3 | apply bodyQ_d4); (exact .inr rfl); (rw [Try.results12]))); (first | (focus (simp only [go_sem, ↓reduceIte, simprocAttr, t1, t11, t18, hpl, c2] <;> rfl)) | exact rfl); (first | (fail_if_success (show okD _ _ _ _ _ _ _ _ _)) | (first | exact okT | exact okN | exact okE rfl)); (first | (fail_if_success (show Bel _ _)) | (focus first | exact .val _ | (simp [oneOf, Bel_iff_tup, Bel_iff_agg, Bel_iff_rsl, Bel_iff_fn, Bel_iff_rptr, Bel_val]; done)))) | refine thenQ_n ?_ | refine thenQ_r ?_ | refine thenQ_e ?_ | refine blockQ_n ?_ | refine blockQ_r ?_ | refine blockQ_e ?_ | (apply blockQ_o; (exact rfl)) | refine Awp.seq ?_ | refine Awp.skip ?_ | refine Awp.block ?_ | refine reg (fun s => s == 12 || s == 14 || s == 22 || s == 31) ?_ | (apply drwE mixed (fun s => s == 12 || s == 14 || s == 22 || s == 31); (kernel_rfl)) | refine fin ?_ | refine Awp.ret ?_ | refine Awp.exit ?_ | ((first | (apply off; (exact rfl)) | apply condF); (first | (focus (simp only [go_sem, ↓reduceIte, simprocAttr, t1, t11, t18, hpl, c2] <;> rfl)) | exact rfl)))
      all_goals first | contradiction | skip
      exact ⟨rfl, rfl, ⟨by (first | (focus (simp only [go_sem, ↓reduceIte, simprocAttr, t1]; first | done | rfl)) | rfl), by (first | (focus (simp only [go_sem, ↓reduceIte, simprocAttr, t5]; first | done | rfl)) | rfl), by (first | (focus (simp only [go_sem, ↓reduceIte, simprocAttr, t7]; first | done | rfl)) | rfl), by (first | (focus (simp only [go_sem, ↓reduceIte, simprocAttr, t8]; first | done | rfl)) | rfl), by (first | (focus (simp only [go_sem, ↓reduceIte, simprocAttr, t9]; first | done | rfl)) | rfl), by (first | (focus (simp only [go_sem, ↓reduceIte, simprocAttr, t10]; first | done | rfl)) | rfl), by (first | (focus (simp only [go_sem, ↓reduceIte, simprocAttr, t11]; first | done | rfl)) | rfl), by (first | (focus (simp only [go_sem, ↓reduceIte, simprocAttr, t12]; first | done | rfl)) | rfl)⟩, by (rw [r3]; (first | (focus (simp only [go_sem, ↓reduceIte, simprocAttr]; first | done | rfl)) | rfl))⟩
    · have c2 : ¬ (i : Int) ≥ (rs.length : Int) := by omega
      rw [if_neg c] at r3
      repeat' (first | refine spD (fun _ => ?_) (fun _ => ?_) | refine spF (fun _ => ?_) (fun _ => ?_) | (apply gT; (exact rfl)) | (apply off; (exact rfl); (exact rfl)) | (apply condT; (exact rfl)) | (apply condF; (exact rfl)) | ((first | (apply stp0; (exact rfl); (exact rfl)) | (apply stpN0; (exact rfl)) | apply gT | apply condT | ((first | apply bodyQ_d0 | apply bodyQ_d1 | apply bodyQ_d2 | apply bodyQ_d3 | apply bodyQ_d4); (exact .inr rfl); (rw [Try.results12]))); (first | (focus (simp only [go_sem, ↓reduceIte, simprocAttr, t1, t11, t18, hpl, c2] <;> rfl)) | exact rfl); (first | (fail_if_success (show okD _ _ _ _ _ _ _ _ _)) | (first | exact okT | exact okN | exact okE rfl)); (first | (fail_if_success (show Bel _ _)) | (focus first | exact .val _ | (simp [oneOf, Bel_iff_tup, Bel_iff_agg, Bel_iff_rsl, Bel_iff_fn, Bel_iff_rptr, Bel_val]; done)))) | refine thenQ_n ?_ | refine thenQ_r ?_ | refine thenQ_e ?_ | refine blockQ_n ?_ | refine blockQ_r ?_ | refine blockQ_e ?_ | (apply blockQ_o; (exact rfl)) | refine Awp.seq ?_ | refine Awp.skip ?_ | refine Awp.block ?_ | refine reg (fun s => s == 12 || s == 14 || s == 22 || s == 31) ?_ | (apply drwE mixed (fun s => s == 12 || s == 14 || s == 22 || s == 31); (kernel_rfl)) | refine fin ?_ | refine Awp.ret ?_ | refine Awp.exit ?_ | ((first | (apply off; (exact rfl)) | apply condF); (first | (focus (simp only [go_sem, ↓reduceIte, simprocAttr, t1, t11, t18, hpl, c2] <;> rfl)) | exact rfl)))
      all_goals first | contradiction | skip
      exact ⟨rfl, rfl, ⟨by (first | (focus (simp only [go_sem, ↓reduceIte, simprocAttr, t1]; first | done | rfl)) | rfl), by (first | (focus (simp only [go_sem, ↓reduceIte, simprocAttr, t5]; first | done | rfl)) | rfl), by (first | (focus (simp only [go_sem, ↓reduceIte, simprocAttr, t7]; first | done | rfl)) | rfl), by (first | (focus (simp only [go_sem, ↓reduceIte, simprocAttr, t8]; first | done | rfl)) | rfl), by (first | (focus (simp only [go_sem, ↓reduceIte, simprocAttr, t9]; first | done | rfl)) | rfl), by (first | (focus (simp only [go_sem, ↓reduceIte, simprocAttr, t10]; first | done | rfl)) | rfl), by (first | (focus (simp only [go_sem, ↓reduceIte, simprocAttr, t11]; first | done | rfl)) | rfl), by (first | (focus (simp only [go_sem, ↓reduceIte, simprocAttr, t12]; first | done | rfl)) | rfl)⟩, by (rw [r3]; (first | (focus (simp only [go_sem, ↓reduceIte, simprocAttr, t18]; first | done | rfl)) | rfl))⟩
  clear t1 t5 t7 t8 t9 t10 t11 t12 t18 T
  rintro e T K2 ⟨rfl, rfl, ⟨t1, t5, t7, t8, t9, t10, t11, t12⟩, t18⟩
  refine thenQ_n ?_
  have hA := Burst_ok hK.rep hI.good room i 0 r1 hI.tm.1 ⟨hI.tm.2, by omega⟩ (by omega)
  repeat' (first | refine spD (fun _ => ?_) (fun _ => ?_) | refine spF (fun _ => ?_) (fun _ => ?_) | (apply gT; (exact rfl)) | (apply off; (exact rfl); (exact rfl)) | (apply condT; (exact rfl)) | (apply condF; (exact rfl)) | ((first | (apply stp0; (exact rfl); (exact rfl)) | (apply stpN0; (exact rfl)) | apply gT | apply condT | ((first | apply bodyQ_d0 | apply bodyQ_d1 | apply bodyQ_d2 | apply bodyQ_d3 | apply bodyQ_d4); (exact .inr rfl); (rw [Try.results12]))); (first | (focus (simp only [go_sem, ↓reduceIte, simprocAttr, t5, t11, t18] <;> rfl)) | exact rfl); (first | (fail_if_success (show okD _ _ _ _ _ _ _ _ _)) | (first | exact okT | exact okN | exact okE rfl)); (first | (fail_if_success (show Bel _ _)) | (focus first | exact .val _ | (simp [oneOf, Bel_iff_tup, Bel_iff_agg, Bel_iff_rsl, Bel_iff_fn, Bel_iff_rptr, Bel_val]; done)))) | refine thenQ_n ?_ | refine thenQ_r ?_ | refine thenQ_e ?_ | refine blockQ_n ?_ | refine blockQ_r ?_ | refine blockQ_e ?_ | (apply blockQ_o; (exact rfl)) | refine Awp.seq ?_ | refine Awp.skip ?_ | refine Awp.block ?_ | refine reg (fun s => s == 12 || s == 14 || s == 22 || s == 31) ?_ | (apply drwE mixed (fun s => s == 12 || s == 14 || s == 22 || s == 31); (kernel_rfl)) | refine fin ?_ | refine Awp.ret ?_ | refine Awp.exit ?_ | ((first | (apply off; (exact rfl)) | apply condF); (first | (focus (simp only [go_sem, ↓reduceIte, simprocAttr, t5, t11, t18] <;> rfl)) | exact rfl)))
  all_goals first | contradiction | skip
  refine cal rfl rfl rfl ?_ (show ACallV Try.prog (.fn (.func 29) []) [.mptr F.b 0 0, iv room, iv i, iv 0] K2 _ from hA) ?_
  · (first | (focus (simp only [go_sem, ↓reduceIte, simprocAttr, t5]; first | done | rfl)) | rfl)
  rintro v1 K1 ⟨a2, w2, rfl, hOt, hR1, hF1, hw2⟩
  have hbn : ∀ x ∈ (bst (i : Int) 0 S.L room).2, x ∈ idsL S.L := fun x h => by
    rcases bst_mem S.L _ x h with k | k
    · simp at k
    · exact k
  have hbl : (bst (i : Int) 0 S.L room).2.length ≤ S.L.length := by have := bst_len (t := (i : Int)) (wt := 0) S.L (room, []); unfold bst; simpa using this
  have hbw : room = 16777216 → (bst (i : Int) 0 S.L room).2 = idsL S.L := fun e => by
    have h1 := hI.good.sum
    have h2 := hI.use
    have h3 := hI.cap
    have h4 : (S.L.map Hd.bytes).sum = S.used := h1.symm
    have := bst_whole (t := (i : Int)) S.L (room, []) hI.due hI.good.byt (by show _ ≤ room; omega)
    unfold bst; simpa using this
  have hIb := hI.burst (t' := (i : Int)) hI.tm.2 (by omega) (bst (i : Int) 0 S.L room).2
  have hsid : idsL (S.mark i (bst (i : Int) 0 S.L room).2).L = idsL S.L := by
    show idsL (S.L.map (mkS i (bst (i : Int) 0 S.L room).2)) = _
    exact idsL_mk ..
  rw [← hsid] at hbn hbw
  repeat' ((fail_if_success (apply stopR (id := 39))); (fail_if_success (apply stopS (id := 39))); first | refine spD (fun _ => ?_) (fun _ => ?_) | refine spF (fun _ => ?_) (fun _ => ?_) | (apply gT; (exact rfl)) | (apply off; (exact rfl); (exact rfl)) | (apply condT; (exact rfl)) | (apply condF; (exact rfl)) | ((first | (apply stp0; (exact rfl); (exact rfl)) | (apply stpN0; (exact rfl)) | apply gT | apply condT | ((first | apply bodyQ_d0 | apply bodyQ_d1 | apply bodyQ_d2 | apply bodyQ_d3 | apply bodyQ_d4); (exact .inr rfl); (rw [Try.results12]))); (first | (focus (simp only [go_sem, ↓reduceIte, simprocAttr] <;> rfl)) | exact rfl); (first | (fail_if_success (show okD _ _ _ _ _ _ _ _ _)) | (first | exact okT | exact okN | exact okE rfl)); (first | (fail_if_success (show Bel _ _)) | (focus first | exact .val _ | (simp [oneOf, Bel_iff_tup, Bel_iff_agg, Bel_iff_rsl, Bel_iff_fn, Bel_iff_rptr, Bel_val]; done)))) | refine thenQ_n ?_ | refine thenQ_r ?_ | refine thenQ_e ?_ | refine blockQ_n ?_ | refine blockQ_r ?_ | refine blockQ_e ?_ | (apply blockQ_o; (exact rfl)) | refine Awp.seq ?_ | refine Awp.skip ?_ | refine Awp.block ?_ | refine reg (fun s => s == 12 || s == 14 || s == 22 || s == 31) ?_ | (apply drwE mixed (fun s => s == 12 || s == 14 || s == 22 || s == 31); (kernel_rfl)) | refine fin ?_ | refine Awp.ret ?_ | refine Awp.exit ?_ | ((first | (apply off; (exact rfl)) | apply condF); (first | (focus (simp only [go_sem, ↓reduceIte, simprocAttr] <;> rfl)) | exact rfl)))
  all_goals first | contradiction | skip
  refine Awp.withT (fun T' => E12 rs ex F.b m al gn n' i rb T' ∧ T' 19 = a2) ⟨⟨by (first | (focus (simp only [go_sem, ↓reduceIte, simprocAttr, t1]; first | done | rfl)) | rfl), by (first | (focus (simp only [go_sem, ↓reduceIte, simprocAttr, t5]; first | done | rfl)) | rfl), by (first | (focus (simp only [go_sem, ↓reduceIte, simprocAttr, t7]; first | done | rfl)) | rfl), by (first | (focus (simp only [go_sem, ↓reduceIte, simprocAttr, t8]; first | done | rfl)) | rfl), by (first | (focus (simp only [go_sem, ↓reduceIte, simprocAttr, t9]; first | done | rfl)) | rfl), by (first | (focus (simp only [go_sem, ↓reduceIte, simprocAttr, t10]; first | done | rfl)) | rfl), by (first | (focus (simp only [go_sem, ↓reduceIte, simprocAttr, t11]; first | done | rfl)) | rfl), by (first | (focus (simp only [go_sem, ↓reduceIte, simprocAttr, t12]; first | done | rfl)) | rfl)⟩, by (first | (focus (simp only [go_sem, ↓reduceIte, simprocAttr]; first | done | rfl)) | rfl)⟩ ?_
  clear t1 t5 t7 t8 t9 t10 t11 t12 t18 T
  rintro T ⟨⟨t1, t5, t7, t8, t9, t10, t11, t12⟩, t19⟩
  refine Awp.frzOwn 19 hOt.own t19 ?_
  refine Awp.withT (fun T' => E12 rs ex F.b m al gn n' i rb T' ∧ T' 19 = .rsl (ints (bst (i : Int) 0 S.L room).2) false) ⟨⟨by (first | (focus (simp only [go_sem, ↓reduceIte, simprocAttr, t1]; first | done | rfl)) | rfl), by (first | (focus (simp only [go_sem, ↓reduceIte, simprocAttr, t5]; first | done | rfl)) | rfl), by (first | (focus (simp only [go_sem, ↓reduceIte, simprocAttr, t7]; first | done | rfl)) | rfl), by (first | (focus (simp only [go_sem, ↓reduceIte, simprocAttr, t8]; first | done | rfl)) | rfl), by (first | (focus (simp only [go_sem, ↓reduceIte, simprocAttr, t9]; first | done | rfl)) | rfl), by (first | (focus (simp only [go_sem, ↓reduceIte, simprocAttr, t10]; first | done | rfl)) | rfl), by (first | (focus (simp only [go_sem, ↓reduceIte, simprocAttr, t11]; first | done | rfl)) | rfl), by (first | (focus (simp only [go_sem, ↓reduceIte, simprocAttr, t12]; first | done | rfl)) | rfl)⟩, by (first | (focus (simp only [go_sem, ↓reduceIte, simprocAttr]; first | done | rfl)) | rfl)⟩ ?_
  clear t1 t5 t7 t8 t9 t10 t11 t12 t19 T
  rintro T ⟨hT, t19⟩
  obtain ⟨hK3, hFO⟩ := hK.burst hR1 hF1 hw2 hOt
  have hx3 := hFO.cells hK.rep hx0 (by decide) (by decide)
  have hSl : S.L.length ≤ 84 := by have := hI.len; omega
  generalize (bst (i : Int) 0 S.L room).2 = o at *
  generalize S.mark i o = S2 at *
  generalize Go.Proofs.Ytlhchnnfgppneaa.Ab.ownK K1 a2 = K3 at *
  clear hA hOt hR1 hF1 hK hI hx hx0 hFO K1
  refine Awp.mono (once2 hT hK3 hIb hx3 (by omega) o t19 hbn (by simp only [maxLen]; omega)) ?_
  clear hT hK3 hIb hx3 t19 T
  rintro e T K ⟨rfl, n2, w3, S3, R3, G3, g3, hT, hK, hI, hx, rfl, rfl, har⟩
  refine thenQ_n ?_
  refine Awp.seq ?_
  refine Awp.mono (once3 hT hK hI hx (by omega)) ?_
  clear hT hK hI hx T K
  rintro e T K ⟨rfl, n4, w4, S4, R4, G4, g4, ⟨t1, t5, t7, t8, t9, t10, t11, t12⟩, hK, hI, hx, rfl, rfl, hem⟩
  refine thenQ_n ?_
  have hRl : R4.length ≤ 84 := by have := hI.rlen; omega
  have c1 := Held_ok hK.rep hI.good
  have c2 := recordsX hK.ibx (by omega)
  have hG1 := (Grow.refl K).app [.cells (bls (List.replicate 100 false)) 4]
  have hav := get_new K (.cells (bls (List.replicate 100 false)) 4)
  have hgn := (List.getElem?_eq_some_iff.1 hK.gon).1
  have hrep : List.replicate 100 [bv false] = bls (List.replicate 100 false) := by simp [bls]
  have hrep2 : List.replicate (Int.toNat 100) [AV.val (Value.bool false)] = bls (List.replicate 100 false) := hrep
  repeat' ((fail_if_success (apply stopR (id := 55))); (fail_if_success (apply stopS (id := 55))); first | refine spD (fun _ => ?_) (fun _ => ?_) | refine spF (fun _ => ?_) (fun _ => ?_) | (apply gT; (exact rfl)) | (apply off; (exact rfl); (exact rfl)) | (apply condT; (exact rfl)) | (apply condF; (exact rfl)) | ((first | (apply stp0; (exact rfl); (exact rfl)) | (apply stpN0; (exact rfl)) | apply gT | apply condT | ((first | apply bodyQ_d0 | apply bodyQ_d1 | apply bodyQ_d2 | apply bodyQ_d3 | apply bodyQ_d4); (exact .inr rfl); (rw [Try.results12]))); (first | (focus (simp only [go_sem, ↓reduceIte, simprocAttr, t5, t7] <;> rfl)) | exact rfl); (first | (fail_if_success (show okD _ _ _ _ _ _ _ _ _)) | (first | exact okT | exact okN | exact okE rfl)); (first | (fail_if_success (show Bel _ _)) | (focus first | exact .val _ | (simp [oneOf, Bel_iff_tup, Bel_iff_agg, Bel_iff_rsl, Bel_iff_fn, Bel_iff_rptr, Bel_val]; done)))) | (apply calTo0; (exact rfl); (iterate 2 (simp only [go_sem, ↓reduceIte, simprocAttr, t5, t7]; rfl)); (first | exact c1 | exact c2); (first | exact okT | exact okN | exact okE rfl)) | refine thenQ_n ?_ | refine thenQ_r ?_ | refine thenQ_e ?_ | refine blockQ_n ?_ | refine blockQ_r ?_ | refine blockQ_e ?_ | (apply blockQ_o; (exact rfl)) | refine Awp.seq ?_ | refine Awp.skip ?_ | refine Awp.block ?_ | refine reg (fun s => s == 12 || s == 14 || s == 22 || s == 31) ?_ | (apply drwE mixed (fun s => s == 12 || s == 14 || s == 22 || s == 31); (kernel_rfl)) | refine fin ?_ | refine Awp.ret ?_ | refine Awp.exit ?_ | ((first | (apply off; (exact rfl)) | apply condF); (first | (focus (simp only [go_sem, ↓reduceIte, simprocAttr, t5, t7] <;> rfl)) | exact rfl)))
  all_goals first | contradiction | skip
  refine (id (α := Awp _ _ _ _ _ (K ++ [.cells (bls (List.replicate 100 false)) 4]) _) ?_)
  refine Awp.withT (fun T' => E12 rs ex F.b m al gn n4 i rb T' ∧ T' 26 = .rsl (hds S4.L) false ∧ T' 27 = .rsl (its R4) false ∧ T' 28 = .msl K.length 0 100) ⟨⟨by (first | (focus (simp only [go_sem, ↓reduceIte, simprocAttr, t1]; first | done | rfl)) | rfl), by (first | (focus (simp only [go_sem, ↓reduceIte, simprocAttr, t5]; first | done | rfl)) | rfl), by (first | (focus (simp only [go_sem, ↓reduceIte, simprocAttr, t7]; first | done | rfl)) | rfl), by (first | (focus (simp only [go_sem, ↓reduceIte, simprocAttr, t8]; first | done | rfl)) | rfl), by (first | (focus (simp only [go_sem, ↓reduceIte, simprocAttr, t9]; first | done | rfl)) | rfl), by (first | (focus (simp only [go_sem, ↓reduceIte, simprocAttr, t10]; first | done | rfl)) | rfl), by (first | (focus (simp only [go_sem, ↓reduceIte, simprocAttr, t11]; first | done | rfl)) | rfl), by (first | (focus (simp only [go_sem, ↓reduceIte, simprocAttr, t12]; first | done | rfl)) | rfl)⟩, by (first | (focus (simp only [go_sem, ↓reduceIte, simprocAttr]; first | done | rfl)) | rfl), by (first | (focus (simp only [go_sem, ↓reduceIte, simprocAttr]; first | done | rfl)) | rfl), by (first | (focus (simp only [go_sem, ↓reduceIte, simprocAttr]; first | done | rfl)) | rfl)⟩ ?_
  clear t1 t5 t7 t8 t9 t10 t11 t12 T
  rintro T ⟨hT, t26, t27, t28⟩
  refine Awp.mono (once4 hT (hK.grow hG1) hI (hG1.get hx) (by omega) t26 t27 t28 hav (by simp) (fun x h => ?_) (by omega)) ?_
  · rw [List.getElem?_replicate] at h; split at h <;> simp at h
  clear hT t26 t27 t28 c1 c2 hK hx hG1 hav hgn T
  generalize K.length = av at *
  rintro e T K ⟨rfl, hT, t26, t28, hK, hx, a, hav, hal, ha1⟩
  refine thenQ_n ?_
  refine Awp.mono (once5 hT hK hI hx (by omega) t26 t28 hav hal ha1) ?_
  clear hT hK hI hx t26 t28 hav hal ha1 a T K
  rintro e T K ⟨rfl, n6, w6, S6, R6, G6, g6, hT, hK, hI, hx, rfl, rfl⟩
  refine ⟨rfl, n6, w6, S6, R6, G6, g6, hT, hK, hI, hx, by omega, fun h => ?_⟩
  obtain ⟨d1, d2⟩ := hlast h
  refine hem d1 fun x hx => ?_
  have := har d2 x
  rw [hbw (r2 h)] at this
  exact this hx

end Go.Proofs.Ytlhchnnfgppneaa.Ab
namespace Go.Proofs.Ytlhchnnfgppneaa.Ab
open Go Go.RowKit Go.Proofs
set_option linter.unusedSimpArgs false
set_option linter.unusedVariables false
attribute [local irreducible] Awp wpO thenQ blockQ bodyQ ACalls stepA

theorem Inv.start {c : Int} (h : 1 ≤ c ∧ c ≤ 2000) : Inv (fun _ => none) 0 (List.replicate 100 false) ⟨c, 0, 0, []⟩ [] 0 :=
  ⟨(fun _ _ e => by cases e), by simp, by simp, (fun _ _ e => by cases e), by simp, ⟨by simp [idsL], by simp, rfl, by simp, ⟨h.1, by show c ≤ 16777216; omega⟩, .nil⟩, by show (0 : Int) ≤ c; omega, h.2, ⟨Int.le_refl _, Int.le_refl _⟩, by simp, .nil, Nat.zero_le _⟩
theorem Lk.start {K : Hp} {F : Ft} {w : Rw} {S : Bf} (hR : Rep K F w S) : Lk (K ++ [.amap []] ++ [.amap []] ++ [.cells (bls (List.replicate 100 false)) 4]) F w S K.length [] (K ++ [AObj.amap []]).length (K ++ [AObj.amap []] ++ [AObj.amap []]).length (fun _ => none) (List.replicate 100 false) := by
  have G1 := (Grow.refl K).app [.amap []]
  have G2 := (Grow.refl (K ++ [.amap []])).app [.amap []]
  have G3 := (Grow.refl (K ++ [.amap []] ++ [.amap []])).app [.cells (bls (List.replicate 100 false)) 4]
  obtain ⟨l1, l2, l3, l4⟩ := hR.raw.lt
  refine ⟨hR.grow ((G1.trans G2).trans G3), Ibx.grow (H := K ++ [.amap []]) ⟨.nil, by simp, [], get_new _ _, ⟨by simp, fun _ => rfl⟩⟩ (G2.trans G3), ⟨[], G3.get (get_new _ _), ⟨by simp, fun _ => rfl⟩⟩, get_new _ _, by omega, ?_, by simp⟩
  simp only [List.length_append, List.length_cons, List.length_nil]
  omega

set_option maxRecDepth 8000 in
set_option maxHeartbeats 16000000 in
theorem BufferOnce_ok (H : Hp) (cp : Int) (hc0 : 0 ≤ cp) (hc1 : cp ≤ 65535) (rs : List Rd) (ex : Bool) (h8 : ∀ p ∈ rs, p.in_) (hm : rs.length ≤ maxLen) :
    ACalls Try.prog 12 [.val (.int .u16 cp), .rsl (rds rs) ex] H fun v _ => v = bv true := by
  have hpl := rds_len rs
  by_cases h12 : (rs.length : Int) > 12
  · refine ACalls.of_body Try.func12 rfl (by kernel_rfl) (by rw [Try.ntmps12]; simp) ?_; rw [Try.ntmps12]
    repeat' (first | refine spD (fun _ => ?_) (fun _ => ?_) | refine spF (fun _ => ?_) (fun _ => ?_) | (apply gT; (exact rfl)) | (apply off; (exact rfl); (exact rfl)) | (apply condT; (exact rfl)) | (apply condF; (exact rfl)) | ((first | (apply stp0; (exact rfl); (exact rfl)) | (apply stpN0; (exact rfl)) | apply gT | apply condT | ((first | apply bodyQ_d0 | apply bodyQ_d1 | apply bodyQ_d2 | apply bodyQ_d3 | apply bodyQ_d4); (exact .inr rfl); (rw [Try.results12]))); (first | (focus (simp only [go_sem, ↓reduceIte, simprocAttr, hpl, h12] <;> rfl)) | exact rfl); (first | (fail_if_success (show okD _ _ _ _ _ _ _ _ _)) | (first | exact okT | exact okN | exact okE rfl)); (first | (fail_if_success (show Bel _ _)) | (focus first | exact .val _ | (simp [oneOf, Bel_iff_tup, Bel_iff_agg, Bel_iff_rsl, Bel_iff_fn, Bel_iff_rptr, Bel_val]; done)))) | (apply calTo0; (exact rfl); (iterate 2 (simp only [go_sem, ↓reduceIte, simprocAttr, hpl, h12]; rfl)); (first | exact fine_ok _); (first | exact okT | exact okN | exact okE rfl)) | refine thenQ_n ?_ | refine thenQ_r ?_ | refine thenQ_e ?_ | refine blockQ_n ?_ | refine blockQ_r ?_ | refine blockQ_e ?_ | (apply blockQ_o; (exact rfl)) | refine Awp.seq ?_ | refine Awp.skip ?_ | refine Awp.block ?_ | refine reg (fun s => s == 12 || s == 14 || s == 22 || s == 31) ?_ | (apply drwE mixed (fun s => s == 12 || s == 14 || s == 22 || s == 31); (kernel_rfl)) | refine fin ?_ | refine Awp.ret ?_ | refine Awp.exit ?_ | ((first | (apply off; (exact rfl)) | apply condF); (first | (focus (simp only [go_sem, ↓reduceIte, simprocAttr, hpl, h12] <;> rfl)) | exact rfl)))
    all_goals first | contradiction | skip
    all_goals exact bodyQ_eq (.inr rfl) (by rw [Try.results12]; simp only [go_sem, ↓reduceIte, simprocAttr]; rfl) rfl
  have wc : IntKind.i64.wrap cp = cp := w64 (by omega) (by omega)
  have hc2 := tms2 hc0
  have wc2 : IntKind.i64.wrap (1 + cp.tmod 2000) = 1 + cp.tmod 2000 := by generalize cp.tmod 2000 = z at *; exact w64 (by omega) (by omega)
  have hnew := New_ok H (1 + cp.tmod 2000) hc2.1 (by omega)
  refine ACalls.of_body Try.func12 rfl (by kernel_rfl) (by rw [Try.ntmps12]; simp) ?_; rw [Try.ntmps12]
  repeat' (first | refine spD (fun _ => ?_) (fun _ => ?_) | refine spF (fun _ => ?_) (fun _ => ?_) | (apply gT; (exact rfl)) | (apply off; (exact rfl); (exact rfl)) | (apply condT; (exact rfl)) | (apply condF; (exact rfl)) | ((first | (apply stp0; (exact rfl); (exact rfl)) | (apply stpN0; (exact rfl)) | apply gT | apply condT | ((first | apply bodyQ_d0 | apply bodyQ_d1 | apply bodyQ_d2 | apply bodyQ_d3 | apply bodyQ_d4); (exact .inr rfl); (rw [Try.results12]))); (first | (focus (simp only [go_sem, ↓reduceIte, simprocAttr, hpl, h12, wc, wc2, ne_eq, not_false_eq_true] <;> rfl)) | exact rfl); (first | (fail_if_success (show okD _ _ _ _ _ _ _ _ _)) | (first | exact okT | exact okN | exact okE rfl)); (first | (fail_if_success (show Bel _ _)) | (focus first | exact .val _ | (simp [oneOf, Bel_iff_tup, Bel_iff_agg, Bel_iff_rsl, Bel_iff_fn, Bel_iff_rptr, Bel_val]; done)))) | refine thenQ_n ?_ | refine thenQ_r ?_ | refine thenQ_e ?_ | refine blockQ_n ?_ | refine blockQ_r ?_ | refine blockQ_e ?_ | (apply blockQ_o; (exact rfl)) | refine Awp.seq ?_ | refine Awp.skip ?_ | refine Awp.block ?_ | refine reg (fun s => s == 12 || s == 14 || s == 22 || s == 31) ?_ | (apply drwE mixed (fun s => s == 12 || s == 14 || s == 22 || s == 31); (kernel_rfl)) | refine fin ?_ | refine Awp.ret ?_ | refine Awp.exit ?_ | ((first | (apply off; (exact rfl)) | apply condF); (first | (focus (simp only [go_sem, ↓reduceIte, simprocAttr, hpl, h12, wc, wc2, ne_eq, not_false_eq_true] <;> rfl)) | exact rfl)))
  all_goals first | contradiction | skip
  refine cal rfl rfl rfl ?_ (show ACallV Try.prog (.fn (.func 16) []) [iv (1 + cp.tmod 2000)] H _ from hnew) ?_
  · (first | (focus (simp only [go_sem, ↓reduceIte, simprocAttr]; first | done | rfl)) | rfl)
  rintro v1 K ⟨F, w, rfl, hR, hw, hG, f1, f2, f3, f4⟩
  have hni := newInbox K
  have hI0 := Inv.start hc2
  have hL0 := Lk.start hR
  have w2 : IntKind.i64.wrap ((rs.length : Int) + 2) = (rs.length : Int) + 2 := w64 (by omega) (by omega)
  repeat' ((fail_if_success (apply stopR (id := 10))); (fail_if_success (apply stopS (id := 10))); first | refine spD (fun _ => ?_) (fun _ => ?_) | refine spF (fun _ => ?_) (fun _ => ?_) | (apply gT; (exact rfl)) | (apply off; (exact rfl); (exact rfl)) | (apply condT; (exact rfl)) | (apply condF; (exact rfl)) | ((first | (apply stp0; (exact rfl); (exact rfl)) | (apply stpN0; (exact rfl)) | apply gT | apply condT | ((first | apply bodyQ_d0 | apply bodyQ_d1 | apply bodyQ_d2 | apply bodyQ_d3 | apply bodyQ_d4); (exact .inr rfl); (rw [Try.results12]))); (first | (focus (simp only [go_sem, ↓reduceIte, simprocAttr] <;> rfl)) | exact rfl); (first | (fail_if_success (show okD _ _ _ _ _ _ _ _ _)) | (first | exact okT | exact okN | exact okE rfl)); (first | (fail_if_success (show Bel _ _)) | (focus first | exact .val _ | (simp [oneOf, Bel_iff_tup, Bel_iff_agg, Bel_iff_rsl, Bel_iff_fn, Bel_iff_rptr, Bel_val]; done)))) | (apply calTo0; (exact rfl); (iterate 2 (simp only [go_sem, ↓reduceIte, simprocAttr]; rfl)); (first | exact hni); (first | exact okT | exact okN | exact okE rfl)) | refine thenQ_n ?_ | refine thenQ_r ?_ | refine thenQ_e ?_ | refine blockQ_n ?_ | refine blockQ_r ?_ | refine blockQ_e ?_ | (apply blockQ_o; (exact rfl)) | refine Awp.seq ?_ | refine Awp.skip ?_ | refine Awp.block ?_ | refine reg (fun s => s == 12 || s == 14 || s == 22 || s == 31) ?_ | (apply drwE mixed (fun s => s == 12 || s == 14 || s == 22 || s == 31); (kernel_rfl)) | refine fin ?_ | refine Awp.ret ?_ | refine Awp.exit ?_ | ((first | (apply off; (exact rfl)) | apply condF); (first | (focus (simp only [go_sem, ↓reduceIte, simprocAttr] <;> rfl)) | exact rfl)))
  all_goals first | contradiction | skip
  refine (id (α := Awp _ _ _ _ _ (K ++ [.amap []] ++ [.amap []] ++ [.cells (bls (List.replicate 100 false)) 4]) _) ?_)
  refine Awp.withT (fun T' => T' 1 = .rsl (rds rs) ex ∧ T' 5 = .mptr F.b 0 0 ∧ T' 7 = .rptr [.mp K.length] 0 ∧ T' 8 = .mp (K ++ [AObj.amap []]).length ∧ T' 9 = .msl (K ++ [AObj.amap []] ++ [AObj.amap []]).length 0 100 ∧ T' 10 = iv (0 : Nat)) ⟨by (first | (focus (simp only [go_sem, ↓reduceIte, simprocAttr]; first | done | rfl)) | rfl), by (first | (focus (simp only [go_sem, ↓reduceIte, simprocAttr]; first | done | rfl)) | rfl), by (first | (focus (simp only [go_sem, ↓reduceIte, simprocAttr]; first | done | rfl)) | rfl), by (first | (focus (simp only [go_sem, ↓reduceIte, simprocAttr]; first | done | rfl)) | rfl), by (first | (focus (simp only [go_sem, ↓reduceIte, simprocAttr]; first | done | rfl)) | rfl), by (first | (focus (simp only [go_sem, ↓reduceIte, simprocAttr]; first | done | rfl)) | rfl)⟩ ?_
  clear hR hG hw f1 f2 f3 f4 hni hnew wc wc2
  generalize (K ++ [AObj.amap []] ++ [AObj.amap []] ++ [AObj.cells (bls (List.replicate 100 false)) 4]) = K1 at *
  generalize (K ++ [AObj.amap []] ++ [AObj.amap []]).length = gn at *
  generalize (K ++ [AObj.amap []]).length = al at *
  generalize K.length = m at *
  clear K
  rintro T ⟨t1, t5, t7, t8, t9, t10⟩
  repeat' (first | refine spD (fun _ => ?_) (fun _ => ?_) | refine spF (fun _ => ?_) (fun _ => ?_) | (apply gT; (exact rfl)) | (apply off; (exact rfl); (exact rfl)) | (apply condT; (exact rfl)) | (apply condF; (exact rfl)) | ((first | (apply stp0; (exact rfl); (exact rfl)) | (apply stpN0; (exact rfl)) | apply gT | apply condT | ((first | apply bodyQ_d0 | apply bodyQ_d1 | apply bodyQ_d2 | apply bodyQ_d3 | apply bodyQ_d4); (exact .inr rfl); (rw [Try.results12]))); (first | (focus (simp only [go_sem, ↓reduceIte, simprocAttr, t1, t5, t7, t8, t9, t10] <;> rfl)) | exact rfl); (first | (fail_if_success (show okD _ _ _ _ _ _ _ _ _)) | (first | exact okT | exact okN | exact okE rfl)); (first | (fail_if_success (show Bel _ _)) | (focus first | exact .val _ | (simp [oneOf, Bel_iff_tup, Bel_iff_agg, Bel_iff_rsl, Bel_iff_fn, Bel_iff_rptr, Bel_val]; done)))) | refine thenQ_n ?_ | refine thenQ_r ?_ | refine thenQ_e ?_ | refine blockQ_n ?_ | refine blockQ_r ?_ | refine blockQ_e ?_ | (apply blockQ_o; (exact rfl)) | refine Awp.seq ?_ | refine Awp.skip ?_ | refine Awp.block ?_ | refine reg (fun s => s == 12 || s == 14 || s == 22 || s == 31) ?_ | (apply drwE mixed (fun s => s == 12 || s == 14 || s == 22 || s == 31); (kernel_rfl)) | refine fin ?_ | refine Awp.ret ?_ | refine Awp.exit ?_ | ((first | (apply off; (exact rfl)) | apply condF); (first | (focus (simp only [go_sem, ↓reduceIte, simprocAttr, t1, t5, t7, t8, t9, t10] <;> rfl)) | exact rfl)))
  all_goals first | contradiction | skip
  refine Awp.loop (ι := Nat) (fun i T' K' => i ≤ rs.length + 2 ∧ T' 11 = iv i ∧ ∃ (n : Nat) (w : Rw) (S : Bf) (R : List Item) (G : Int → Option Item) (g : List Bool), n ≤ 6 * i ∧ (T' 1 = .rsl (rds rs) ex ∧ T' 5 = .mptr F.b 0 0 ∧ T' 7 = .rptr [.mp m] 0 ∧ T' 8 = .mp al ∧ T' 9 = .msl gn 0 100 ∧ T' 10 = iv n) ∧ Lk K' F w S m R al gn G g ∧ Inv G n g S R i ∧ (rs.length < i → S.L = [])) (fun i => rs.length + 2 - i) 0 ?_ ?_
  · exact ⟨Nat.zero_le _, by (first | (focus (simp only [go_sem, ↓reduceIte, simprocAttr]; first | done | rfl)) | rfl), 0, w, _, _, _, _, Nat.le_refl _, ⟨by (first | (focus (simp only [go_sem, ↓reduceIte, simprocAttr, t1]; first | done | rfl)) | rfl), by (first | (focus (simp only [go_sem, ↓reduceIte, simprocAttr, t5]; first | done | rfl)) | rfl), by (first | (focus (simp only [go_sem, ↓reduceIte, simprocAttr, t7]; first | done | rfl)) | rfl), by (first | (focus (simp only [go_sem, ↓reduceIte, simprocAttr, t8]; first | done | rfl)) | rfl), by (first | (focus (simp only [go_sem, ↓reduceIte, simprocAttr, t9]; first | done | rfl)) | rfl), by (first | (focus (simp only [go_sem, ↓reduceIte, simprocAttr, t10]; first | done | rfl)) | rfl)⟩, hL0, hI0, fun h => absurd h (by omega)⟩
  clear t1 t5 t7 t8 t9 t10 T hI0 hL0 K1 w
  rintro i T K ⟨hi, t11, n, w, S, R, G, g, hn, ⟨t1, t5, t7, t8, t9, t10⟩, hK, hI, hem⟩
  by_cases hlt : i < rs.length + 2
  · have hlt2 : (i : Int) < (rs.length : Int) + 2 := by omega
    have hsu : IntKind.i64.wrap ((i : Int) + 1) = ((i + 1 : Nat) : Int) := wsucc hlt (by simp only [maxLen]; omega)
    have hG1 : ∀ X, Grow K (K ++ [X]) := fun X => (Grow.refl K).app [X]
    by_cases hil : i < rs.length
    · obtain ⟨p, hp⟩ := nth hil
      have hpc := rds_at hp
      have hpi := h8 p (List.mem_of_getElem? hp)
      have hrd := fun T (hT : E12 rs ex F.b m al gn n i K.length T) => once_round hT (hK.grow (hG1 (.cells [p.cs] 104))) hI (get_new K (.cells [p.cs] 104)) hpi (by omega) (by omega) (by omega) (fun h => absurd hil (by omega))
      simp only [Rd.cs, u16v] at hpc hrd
      repeat' ((fail_if_success (apply stopR (id := 14))); (fail_if_success (apply stopS (id := 14))); first | refine spD (fun _ => ?_) (fun _ => ?_) | refine spF (fun _ => ?_) (fun _ => ?_) | (apply gT; (exact rfl)) | (apply off; (exact rfl); (exact rfl)) | (apply condT; (exact rfl)) | (apply condF; (exact rfl)) | ((first | (apply stp0; (exact rfl); (exact rfl)) | (apply stpN0; (exact rfl)) | apply gT | apply condT | ((first | apply bodyQ_d0 | apply bodyQ_d1 | apply bodyQ_d2 | apply bodyQ_d3 | apply bodyQ_d4); (exact .inr rfl); (rw [Try.results12]))); (first | (focus (simp only [go_sem, ↓reduceIte, simprocAttr, t1, t11, hpl, w2, hlt2] <;> rfl)) | exact rfl); (first | (fail_if_success (show okD _ _ _ _ _ _ _ _ _)) | (first | exact okT | exact okN | exact okE rfl)); (first | (fail_if_success (show Bel _ _)) | (focus first | exact .val _ | (simp [oneOf, Bel_iff_tup, Bel_iff_agg, Bel_iff_rsl, Bel_iff_fn, Bel_iff_rptr, Bel_val]; done)))) | refine thenQ_n ?_ | refine thenQ_r ?_ | refine thenQ_e ?_ | refine blockQ_n ?_ | refine blockQ_r ?_ | refine blockQ_e ?_ | (apply blockQ_o; (exact rfl)) | refine Awp.seq ?_ | refine Awp.skip ?_ | refine Awp.block ?_ | refine reg (fun s => s == 12 || s == 14 || s == 22 || s == 31) ?_ | (apply drwE mixed (fun s => s == 12 || s == 14 || s == 22 || s == 31); (kernel_rfl)) | refine fin ?_ | refine Awp.ret ?_ | refine Awp.exit ?_ | ((first | (apply off; (exact rfl)) | apply condF); (first | (focus (simp only [go_sem, ↓reduceIte, simprocAttr, t1, t11, hpl, w2, hlt2] <;> rfl)) | exact rfl)))
      all_goals first | contradiction | skip
      refine Awp.mono (Q := fun e T' K' => e = .normal ∧ K' = K ++ [.cells [[.val (.int .u16 p.B), .val (.int .u16 p.L), bv p.D, .rsl (pcz p.M) p.ex]] 104] ∧ E12 rs ex F.b m al gn n i K.length T') ?_ ?_
      · repeat' (first | refine spD (fun _ => ?_) (fun _ => ?_) | refine spF (fun _ => ?_) (fun _ => ?_) | (apply gT; (exact rfl)) | (apply off; (exact rfl); (exact rfl)) | (apply condT; (exact rfl)) | (apply condF; (exact rfl)) | ((first | (apply stp0; (exact rfl); (exact rfl)) | (apply stpN0; (exact rfl)) | apply gT | apply condT | ((first | apply bodyQ_d0 | apply bodyQ_d1 | apply bodyQ_d2 | apply bodyQ_d3 | apply bodyQ_d4); (exact .inr rfl); (rw [Try.results12]))); (first | (focus (simp only [go_sem, ↓reduceIte, simprocAttr, t1, t11, hpl, hpc, Int.ofNat_lt.2 hil] <;> rfl)) | exact rfl); (first | (fail_if_success (show okD _ _ _ _ _ _ _ _ _)) | (first | exact okT | exact okN | exact okE rfl)); (first | (fail_if_success (show Bel _ _)) | (focus first | exact .val _ | (simp [oneOf, Bel_iff_tup, Bel_iff_agg, Bel_iff_rsl, Bel_iff_fn, Bel_iff_rptr, Bel_val]; done)))) | refine thenQ_n ?_ | refine thenQ_r ?_ | refine thenQ_e ?_ | refine blockQ_n ?_ | refine blockQ_r ?_ | refine blockQ_e ?_ | (apply blockQ_o; (exact rfl)) | refine Awp.seq ?_ | refine Awp.skip ?_ | refine Awp.block ?_ | refine reg (fun s => s == 12 || s == 14 || s == 22 || s == 31) ?_ | (apply drwE mixed (fun s => s == 12 || s == 14 || s == 22 || s == 31); (kernel_rfl)) | refine fin ?_ | refine Awp.ret ?_ | refine Awp.exit ?_ | ((first | (apply off; (exact rfl)) | apply condF); (first | (focus (simp only [go_sem, ↓reduceIte, simprocAttr, t1, t11, hpl, hpc, Int.ofNat_lt.2 hil] <;> rfl)) | exact rfl)))
        all_goals first | contradiction | skip
        exact ⟨rfl, rfl, ⟨by (first | (focus (simp only [go_sem, ↓reduceIte, simprocAttr, t1]; first | done | rfl)) | rfl), by (first | (focus (simp only [go_sem, ↓reduceIte, simprocAttr, t5]; first | done | rfl)) | rfl), by (first | (focus (simp only [go_sem, ↓reduceIte, simprocAttr, t7]; first | done | rfl)) | rfl), by (first | (focus (simp only [go_sem, ↓reduceIte, simprocAttr, t8]; first | done | rfl)) | rfl), by (first | (focus (simp only [go_sem, ↓reduceIte, simprocAttr, t9]; first | done | rfl)) | rfl), by (first | (focus (simp only [go_sem, ↓reduceIte, simprocAttr, t10]; first | done | rfl)) | rfl), by (first | (focus (simp only [go_sem, ↓reduceIte, simprocAttr, t11]; first | done | rfl)) | rfl), by (first | (focus (simp only [go_sem, ↓reduceIte, simprocAttr, t12]; first | done | rfl)) | rfl)⟩⟩
      clear t1 t5 t7 t8 t9 t10 t11 T
      rintro e T K' ⟨rfl, rfl, hT⟩
      refine thenQ_n ?_
      refine Awp.mono (hrd T hT) ?_
      clear hT hrd hK hI hem hG1 T w S R G g
      generalize K.length = rb at *
      clear K
      rintro e T K ⟨rfl, n2, w, S, R, G, g, ⟨t1, t5, t7, t8, t9, t10, t11, t12⟩, hK, hI, _, hn2, hem⟩
      repeat' (first | refine spD (fun _ => ?_) (fun _ => ?_) | refine spF (fun _ => ?_) (fun _ => ?_) | (apply gT; (exact rfl)) | (apply off; (exact rfl); (exact rfl)) | (apply condT; (exact rfl)) | (apply condF; (exact rfl)) | ((first | (apply stp0; (exact rfl); (exact rfl)) | (apply stpN0; (exact rfl)) | apply gT | apply condT | ((first | apply bodyQ_d0 | apply bodyQ_d1 | apply bodyQ_d2 | apply bodyQ_d3 | apply bodyQ_d4); (exact .inr rfl); (rw [Try.results12]))); (first | (focus (simp only [go_sem, ↓reduceIte, simprocAttr, t11, hsu] <;> rfl)) | exact rfl); (first | (fail_if_success (show okD _ _ _ _ _ _ _ _ _)) | (first | exact okT | exact okN | exact okE rfl)); (first | (fail_if_success (show Bel _ _)) | (focus first | exact .val _ | (simp [oneOf, Bel_iff_tup, Bel_iff_agg, Bel_iff_rsl, Bel_iff_fn, Bel_iff_rptr, Bel_val]; done)))) | refine thenQ_n ?_ | refine thenQ_r ?_ | refine thenQ_e ?_ | refine blockQ_n ?_ | refine blockQ_r ?_ | refine blockQ_e ?_ | (apply blockQ_o; (exact rfl)) | refine Awp.seq ?_ | refine Awp.skip ?_ | refine Awp.block ?_ | refine reg (fun s => s == 12 || s == 14 || s == 22 || s == 31) ?_ | (apply drwE mixed (fun s => s == 12 || s == 14 || s == 22 || s == 31); (kernel_rfl)) | refine fin ?_ | refine Awp.ret ?_ | refine Awp.exit ?_ | ((first | (apply off; (exact rfl)) | apply condF); (first | (focus (simp only [go_sem, ↓reduceIte, simprocAttr, t11, hsu] <;> rfl)) | exact rfl)))
      all_goals first | contradiction | skip
      exact ⟨i + 1, ⟨by omega, by (first | (focus (simp only [go_sem, ↓reduceIte, simprocAttr, hsu]; first | done | rfl)) | rfl), n2, w, S, R, G, g, by omega, ⟨by (first | (focus (simp only [go_sem, ↓reduceIte, simprocAttr, t1]; first | done | rfl)) | rfl), by (first | (focus (simp only [go_sem, ↓reduceIte, simprocAttr, t5]; first | done | rfl)) | rfl), by (first | (focus (simp only [go_sem, ↓reduceIte, simprocAttr, t7]; first | done | rfl)) | rfl), by (first | (focus (simp only [go_sem, ↓reduceIte, simprocAttr, t8]; first | done | rfl)) | rfl), by (first | (focus (simp only [go_sem, ↓reduceIte, simprocAttr, t9]; first | done | rfl)) | rfl), by (first | (focus (simp only [go_sem, ↓reduceIte, simprocAttr, t10]; first | done | rfl)) | rfl)⟩, hK, hI.more (by omega), fun h => hem (by omega)⟩, by omega⟩
    · have hnl : ¬ (i : Int) < (rs.length : Int) := by omega
      have hrd := fun T (hT : E12 rs ex F.b m al gn n i K.length T) => once_round (p := ⟨65535, 0, false, [], false⟩) hT (hK.grow (hG1 (.cells [Rd.cs ⟨65535, 0, false, [], false⟩] 104))) hI (get_new K (.cells [Rd.cs ⟨65535, 0, false, [], false⟩] 104)) ⟨⟨by decide, by decide⟩, ⟨by decide, by decide⟩, by simp, Nat.zero_le _⟩ (by omega) (by omega) (by omega) (fun _ => ⟨rfl, rfl⟩)
      simp only [Rd.cs, u16v] at hrd
      repeat' ((fail_if_success (apply stopR (id := 14))); (fail_if_success (apply stopS (id := 14))); first | refine spD (fun _ => ?_) (fun _ => ?_) | refine spF (fun _ => ?_) (fun _ => ?_) | (apply gT; (exact rfl)) | (apply off; (exact rfl); (exact rfl)) | (apply condT; (exact rfl)) | (apply condF; (exact rfl)) | ((first | (apply stp0; (exact rfl); (exact rfl)) | (apply stpN0; (exact rfl)) | apply gT | apply condT | ((first | apply bodyQ_d0 | apply bodyQ_d1 | apply bodyQ_d2 | apply bodyQ_d3 | apply bodyQ_d4); (exact .inr rfl); (rw [Try.results12]))); (first | (focus (simp only [go_sem, ↓reduceIte, simprocAttr, t1, t11, hpl, w2, hlt2] <;> rfl)) | exact rfl); (first | (fail_if_success (show okD _ _ _ _ _ _ _ _ _)) | (first | exact okT | exact okN | exact okE rfl)); (first | (fail_if_success (show Bel _ _)) | (focus first | exact .val _ | (simp [oneOf, Bel_iff_tup, Bel_iff_agg, Bel_iff_rsl, Bel_iff_fn, Bel_iff_rptr, Bel_val]; done)))) | refine thenQ_n ?_ | refine thenQ_r ?_ | refine thenQ_e ?_ | refine blockQ_n ?_ | refine blockQ_r ?_ | refine blockQ_e ?_ | (apply blockQ_o; (exact rfl)) | refine Awp.seq ?_ | refine Awp.skip ?_ | refine Awp.block ?_ | refine reg (fun s => s == 12 || s == 14 || s == 22 || s == 31) ?_ | (apply drwE mixed (fun s => s == 12 || s == 14 || s == 22 || s == 31); (kernel_rfl)) | refine fin ?_ | refine Awp.ret ?_ | refine Awp.exit ?_ | ((first | (apply off; (exact rfl)) | apply condF); (first | (focus (simp only [go_sem, ↓reduceIte, simprocAttr, t1, t11, hpl, w2, hlt2] <;> rfl)) | exact rfl)))
      all_goals first | contradiction | skip
      refine Awp.mono (Q := fun e T' K' => e = .normal ∧ K' = K ++ [.cells [[.val (.int .u16 65535), .val (.int .u16 0), bv false, nilS]] 104] ∧ E12 rs ex F.b m al gn n i K.length T') ?_ ?_
      · repeat' (first | refine spD (fun _ => ?_) (fun _ => ?_) | refine spF (fun _ => ?_) (fun _ => ?_) | (apply gT; (exact rfl)) | (apply off; (exact rfl); (exact rfl)) | (apply condT; (exact rfl)) | (apply condF; (exact rfl)) | ((first | (apply stp0; (exact rfl); (exact rfl)) | (apply stpN0; (exact rfl)) | apply gT | apply condT | ((first | apply bodyQ_d0 | apply bodyQ_d1 | apply bodyQ_d2 | apply bodyQ_d3 | apply bodyQ_d4); (exact .inr rfl); (rw [Try.results12]))); (first | (focus (simp only [go_sem, ↓reduceIte, simprocAttr, t1, t11, hpl, hnl] <;> rfl)) | exact rfl); (first | (fail_if_success (show okD _ _ _ _ _ _ _ _ _)) | (first | exact okT | exact okN | exact okE rfl)); (first | (fail_if_success (show Bel _ _)) | (focus first | exact .val _ | (simp [oneOf, Bel_iff_tup, Bel_iff_agg, Bel_iff_rsl, Bel_iff_fn, Bel_iff_rptr, Bel_val]; done)))) | refine thenQ_n ?_ | refine thenQ_r ?_ | refine thenQ_e ?_ | refine blockQ_n ?_ | refine blockQ_r ?_ | refine blockQ_e ?_ | (apply blockQ_o; (exact rfl)) | refine Awp.seq ?_ | refine Awp.skip ?_ | refine Awp.block ?_ | refine reg (fun s => s == 12 || s == 14 || s == 22 || s == 31) ?_ | (apply drwE mixed (fun s => s == 12 || s == 14 || s == 22 || s == 31); (kernel_rfl)) | refine fin ?_ | refine Awp.ret ?_ | refine Awp.exit ?_ | ((first | (apply off; (exact rfl)) | apply condF); (first | (focus (simp only [go_sem, ↓reduceIte, simprocAttr, t1, t11, hpl, hnl] <;> rfl)) | exact rfl)))
        all_goals first | contradiction | skip
        exact ⟨rfl, rfl, ⟨by (first | (focus (simp only [go_sem, ↓reduceIte, simprocAttr, t1]; first | done | rfl)) | rfl), by (first | (focus (simp only [go_sem, ↓reduceIte, simprocAttr, t5]; first | done | rfl)) | rfl), by (first | (focus (simp only [go_sem, ↓reduceIte, simprocAttr, t7]; first | done | rfl)) | rfl), by (first | (focus (simp only [go_sem, ↓reduceIte, simprocAttr, t8]; first | done | rfl)) | rfl), by (first | (focus (simp only [go_sem, ↓reduceIte, simprocAttr, t9]; first | done | rfl)) | rfl), by (first | (focus (simp only [go_sem, ↓reduceIte, simprocAttr, t10]; first | done | rfl)) | rfl), by (first | (focus (simp only [go_sem, ↓reduceIte, simprocAttr, t11]; first | done | rfl)) | rfl), by (first | (focus (simp only [go_sem, ↓reduceIte, simprocAttr, t12]; first | done | rfl)) | rfl)⟩⟩
      clear t1 t5 t7 t8 t9 t10 t11 T
      rintro e T K' ⟨rfl, rfl, hT⟩
      refine thenQ_n ?_
      refine Awp.frzCellNil (k := 3) (get_new _ _) rfl ?_
      rw [set_new]
      refine Awp.mono (hrd T hT) ?_
      clear hT hrd hK hI hem hG1 T w S R G g
      generalize K.length = rb at *
      clear K
      rintro e T K ⟨rfl, n2, w, S, R, G, g, ⟨t1, t5, t7, t8, t9, t10, t11, t12⟩, hK, hI, _, hn2, hem⟩
      repeat' (first | refine spD (fun _ => ?_) (fun _ => ?_) | refine spF (fun _ => ?_) (fun _ => ?_) | (apply gT; (exact rfl)) | (apply off; (exact rfl); (exact rfl)) | (apply condT; (exact rfl)) | (apply condF; (exact rfl)) | ((first | (apply stp0; (exact rfl); (exact rfl)) | (apply stpN0; (exact rfl)) | apply gT | apply condT | ((first | apply bodyQ_d0 | apply bodyQ_d1 | apply bodyQ_d2 | apply bodyQ_d3 | apply bodyQ_d4); (exact .inr rfl); (rw [Try.results12]))); (first | (focus (simp only [go_sem, ↓reduceIte, simprocAttr, t11, hsu] <;> rfl)) | exact rfl); (first | (fail_if_success (show okD _ _ _ _ _ _ _ _ _)) | (first | exact okT | exact okN | exact okE rfl)); (first | (fail_if_success (show Bel _ _)) | (focus first | exact .val _ | (simp [oneOf, Bel_iff_tup, Bel_iff_agg, Bel_iff_rsl, Bel_iff_fn, Bel_iff_rptr, Bel_val]; done)))) | refine thenQ_n ?_ | refine thenQ_r ?_ | refine thenQ_e ?_ | refine blockQ_n ?_ | refine blockQ_r ?_ | refine blockQ_e ?_ | (apply blockQ_o; (exact rfl)) | refine Awp.seq ?_ | refine Awp.skip ?_ | refine Awp.block ?_ | refine reg (fun s => s == 12 || s == 14 || s == 22 || s == 31) ?_ | (apply drwE mixed (fun s => s == 12 || s == 14 || s == 22 || s == 31); (kernel_rfl)) | refine fin ?_ | refine Awp.ret ?_ | refine Awp.exit ?_ | ((first | (apply off; (exact rfl)) | apply condF); (first | (focus (simp only [go_sem, ↓reduceIte, simprocAttr, t11, hsu] <;> rfl)) | exact rfl)))
      all_goals first | contradiction | skip
      exact ⟨i + 1, ⟨by omega, by (first | (focus (simp only [go_sem, ↓reduceIte, simprocAttr, hsu]; first | done | rfl)) | rfl), n2, w, S, R, G, g, by omega, ⟨by (first | (focus (simp only [go_sem, ↓reduceIte, simprocAttr, t1]; first | done | rfl)) | rfl), by (first | (focus (simp only [go_sem, ↓reduceIte, simprocAttr, t5]; first | done | rfl)) | rfl), by (first | (focus (simp only [go_sem, ↓reduceIte, simprocAttr, t7]; first | done | rfl)) | rfl), by (first | (focus (simp only [go_sem, ↓reduceIte, simprocAttr, t8]; first | done | rfl)) | rfl), by (first | (focus (simp only [go_sem, ↓reduceIte, simprocAttr, t9]; first | done | rfl)) | rfl), by (first | (focus (simp only [go_sem, ↓reduceIte, simprocAttr, t10]; first | done | rfl)) | rfl)⟩, hK, hI.more (by omega), fun h => hem (by omega)⟩, by omega⟩
  · have hie : i = rs.length + 2 := Nat.le_antisymm hi (Nat.not_lt.1 hlt)
    have hSe := hem (by omega)
    have hnl : ¬ (i : Int) < (rs.length : Int) + 2 := by omega
    have c1 := Held_ok hK.rep hI.good
    have c2 := Used_ok hK.rep.raw
    have hu : w.used = 0 := by rw [hK.rep.used, hI.good.sum, hSe]; rfl
    rw [hu] at c2
    rw [hSe] at c1
    have h0 : (hds []).length = 0 := rfl
    repeat' (first | refine spD (fun _ => ?_) (fun _ => ?_) | refine spF (fun _ => ?_) (fun _ => ?_) | (apply gT; (exact rfl)) | (apply off; (exact rfl); (exact rfl)) | (apply condT; (exact rfl)) | (apply condF; (exact rfl)) | ((first | (apply stp0; (exact rfl); (exact rfl)) | (apply stpN0; (exact rfl)) | apply gT | apply condT | ((first | apply bodyQ_d0 | apply bodyQ_d1 | apply bodyQ_d2 | apply bodyQ_d3 | apply bodyQ_d4); (exact .inr rfl); (rw [Try.results12]))); (first | (focus (simp only [go_sem, ↓reduceIte, simprocAttr, t1, t5, t11, hpl, w2, hnl, h0] <;> rfl)) | exact rfl); (first | (fail_if_success (show okD _ _ _ _ _ _ _ _ _)) | (first | exact okT | exact okN | exact okE rfl)); (first | (fail_if_success (show Bel _ _)) | (focus first | exact .val _ | (simp [oneOf, Bel_iff_tup, Bel_iff_agg, Bel_iff_rsl, Bel_iff_fn, Bel_iff_rptr, Bel_val]; done)))) | (apply calTo0; (exact rfl); (iterate 2 (simp only [go_sem, ↓reduceIte, simprocAttr, t1, t5, t11, hpl, w2, hnl, h0]; rfl)); (first | exact c1 | exact c2 | exact fine_ok _); (first | exact okT | exact okN | exact okE rfl)) | refine thenQ_n ?_ | refine thenQ_r ?_ | refine thenQ_e ?_ | refine blockQ_n ?_ | refine blockQ_r ?_ | refine blockQ_e ?_ | (apply blockQ_o; (exact rfl)) | refine Awp.seq ?_ | refine Awp.skip ?_ | refine Awp.block ?_ | refine reg (fun s => s == 12 || s == 14 || s == 22 || s == 31) ?_ | (apply drwE mixed (fun s => s == 12 || s == 14 || s == 22 || s == 31); (kernel_rfl)) | refine fin ?_ | refine Awp.ret ?_ | refine Awp.exit ?_ | ((first | (apply off; (exact rfl)) | apply condF); (first | (focus (simp only [go_sem, ↓reduceIte, simprocAttr, t1, t5, t11, hpl, w2, hnl, h0] <;> rfl)) | exact rfl)))
    all_goals first | contradiction | skip
    all_goals exact bodyQ_eq (.inr rfl) (by rw [Try.results12]; simp only [go_sem, ↓reduceIte, simprocAttr]; rfl) rfl

end Go.Proofs.Ytlhchnnfgppneaa.Ab
namespace Go.Proofs.Ytlhchnnfgppneaa.Ab
open Go Go.RowKit Go.Proofs
set_option linter.unusedSimpArgs false
set_option linter.unusedVariables false
attribute [local irreducible] Awp wpO thenQ blockQ bodyQ ACalls stepA

abbrev U8o : Sh := .int .u8
abbrev U16o : Sh := .int .u16
theorem wfKo {k : IntKind} {n : Int} (h : (Lit.int k n).wf = true) : k.min ≤ n ∧ n ≤ k.max := by simpa [Lit.wf] using h
theorem fitB {s : List Sh} {xs : List AV} (h : Fits (.bool :: s) xs) : ∃ b bs, xs = .val (.bool b) :: bs ∧ Fits s bs := by
  cases h; exact ⟨_, _, rfl, by assumption⟩
theorem pcFito (x : List AV) (h : Fits [U8o, U8o, U8o, U8o, U8o] x) : ∃ p : Pc, x = p.cs ∧ p.in8 := by
  obtain ⟨a, _, rfl, ha, h⟩ := fitK h
  obtain ⟨b, _, rfl, hb, h⟩ := fitK h
  obtain ⟨c, _, rfl, hc, h⟩ := fitK h
  obtain ⟨d, _, rfl, hd, h⟩ := fitK h
  obtain ⟨e, _, rfl, he, h⟩ := fitK h
  obtain rfl := fit0 h
  exact ⟨⟨a, b, c, d, e⟩, rfl, wfKo ha, wfKo hb, wfKo hc, wfKo hd, wfKo he⟩
theorem pczFito : ∀ (es : List (List AV)), (∀ x ∈ es, Fits [U8o, U8o, U8o, U8o, U8o] x) → ∃ l : List Pc, es = pcz l ∧ ∀ p ∈ l, p.in8
  | [], _ => ⟨[], rfl, by simp⟩
  | x :: es, h => by
    obtain ⟨p, rfl, hp⟩ := pcFito x (h x (by simp))
    obtain ⟨l, rfl, hl⟩ := pczFito es fun y hy => h y (by simp [hy])
    exact ⟨p :: l, rfl, by simpa using ⟨hp, hl⟩⟩
theorem rdFit (x : List AV) (h : Fits [U16o, U16o, .bool, .sl 5 [U8o, U8o, U8o, U8o, U8o]] x) : ∃ p : Rd, x = p.cs ∧ p.in_ := by
  obtain ⟨a, _, rfl, ha, h⟩ := fitK h
  obtain ⟨b, _, rfl, hb, h⟩ := fitK h
  obtain ⟨d, _, rfl, hB⟩ := fitB h
  obtain ⟨es, ex, bs, e1, h3, _, hm, h4⟩ := fitL hB
  subst e1
  obtain ⟨s, rfl, hs⟩ := pczFito es h3
  obtain rfl := fit0 h4
  exact ⟨⟨a, b, d, s, ex⟩, rfl, wfKo ha, wfKo hb, hs, by rwa [pcz_len] at hm⟩
theorem rdsFit : ∀ (es : List (List AV)), (∀ x ∈ es, Fits [U16o, U16o, .bool, .sl 5 [U8o, U8o, U8o, U8o, U8o]] x) → ∃ l : List Rd, es = rds l ∧ ∀ p ∈ l, p.in_
  | [], _ => ⟨[], rfl, by simp⟩
  | x :: es, h => by
    obtain ⟨p, rfl, hp⟩ := rdFit x (h x (by simp))
    obtain ⟨l, rfl, hl⟩ := rdsFit es fun y hy => h y (by simp [hy])
    exact ⟨p :: l, rfl, by simpa using ⟨hp, hl⟩⟩
def rdS : Bool × List Sh := (false, [.sl 32 [U16o, U16o, .bool, .sl 5 [U8o, U8o, U8o, U8o, U8o]]])
theorem rdsArg {r : List (Bool × List Sh)} {xs : List AV} (h : ArgsFit (rdS :: r) xs) : ∃ (v : List Rd) (ex : Bool) (l : List AV), xs = .rsl (rds v) ex :: l ∧ (∀ p ∈ v, p.in_) ∧ v.length ≤ maxLen ∧ ArgsFit r l := by
  obtain ⟨a, l, rfl, h1, h2⟩ := argF h
  obtain ⟨es, ex, bs, e, h3, _, hm, h4⟩ := fitL h1
  cases e
  obtain ⟨v, rfl, hv⟩ := rdsFit es h3
  exact ⟨v, ex, l, rfl, hv, by rwa [rds_len] at hm, h2⟩
theorem intArgo {k : IntKind} {r : List (Bool × List Sh)} {xs : List AV} (h : ArgsFit ((false, [.int k]) :: r) xs) : ∃ (n : Int) (l : List AV), xs = .val (.int k n) :: l ∧ (Lit.int k n).wf = true ∧ ArgsFit r l := by
  obtain ⟨a, l, rfl, h1, h2⟩ := argF h
  obtain ⟨n, bs, e, h3, h4⟩ := fitK h1
  cases e
  exact ⟨n, l, rfl, h3, h2⟩

def sh12 : List (Bool × List Sh) := [(false, [U16o]), rdS]
theorem law12 : ∀ xs, ArgsFit sh12 xs → ACalls Try.prog 12 xs [] fun v _ => v = .val (.bool true) := by
  intro xs h0
  obtain ⟨c, l, rfl, hc, h1⟩ := intArgo h0
  obtain ⟨v, ex, l, rfl, hv, hm, h2⟩ := rdsArg h1
  obtain rfl := arg0 h2
  have h16 := wfKo hc
  exact BufferOnce_ok [] c h16.1 h16.2 v ex hv hm

end Go.Proofs.Ytlhchnnfgppneaa.Ab
