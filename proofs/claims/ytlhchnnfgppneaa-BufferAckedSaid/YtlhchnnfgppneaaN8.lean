/- Buffers: Put, from where the record goes into the order. -/
import Derived.Test.YtlhchnnfgppneaaN7
namespace Go.Proofs.Ytlhchnnfgppneaa.Ab
open Go Go.RowKit Go.Proofs
set_option linter.unusedSimpArgs false
set_option linter.unusedVariables false
attribute [local irreducible] Awp wpO thenQ blockQ bodyQ ACalls stepA

def tl : Code → Code
  | .seq _ y => y
  | c => c

set_option maxRecDepth 8000 in
set_option maxHeartbeats 8000000 in
theorem put12 {H K : Hp} {F : Ft} {w : Rw} {S : Bf} {T : Env} {r : Item} {Q : Exit → Env → Hp → Prop} (hG : Grow H K) (hR : Rep K F w S) (hg : Good S) (hl : S.L.length ≤ 256) (hr : r.ok) (hn : r.id ∉ idsL S.L)
    (t2 : T 2 = .rptr [.mptr F.b 0 0] 0) (t3 : T 3 = .rptr [iv r.id, iv r.cls, iv r.made, iv r.size, iv r.pk] 0) (t9 : T 9 = iv (placeN S.L r))
    (h : ∀ T K2 w2, T 2 = .rptr [.mptr F.b 0 0] 0 → Rep K2 F w2 (S.ins r) → FrO F w K K2 → (∃ n, w2.ord = .msl (K.length + 1) 0 n) → Awp Try.prog 131 none (tl (tl (tl (tl (tl (tl (tl (tl (tl (Try.f24.body.getD .skip)))))))))) T K2 Q) : Awp Try.prog 131 none (tl (tl (tl (tl (tl (tl (Try.f24.body.getD .skip))))))) T K Q := by
  unfold Try.f24 at h ⊢
  simp only [tl, Option.getD_some] at h ⊢
  have hO := hR.ord
  have hil : (idsL S.L).length = S.L.length := by simp [idsL]
  have hpN := placeN_le r S.L
  have hb := hR.raw.hb
  simp only [Rw.cs] at hb
  have hbb := held hb
  have hG1 : Grow K (K ++ [AObj.cells [[iv r.id]] 2]) := (Grow.refl _).app _
  have hO1 := hO.grow hG1
  have hR1 := hR.raw.grow hG1
  have hin := insert_ok hO1 (vb := K.length) (y := r.id) (get_new _ _) (fun o n e => by
    obtain ⟨v, hv, _⟩ := hO.blk e
    have := (List.getElem?_eq_some_iff.1 hv).1
    omega) (placeN S.L r) (by omega) (by omega)
  have hR2 := (hR1.own hO1).app [.cells (ints (insA (placeN S.L r) r.id (idsL S.L))) 2]
  have hb2 := hR2.hb
  simp only [Rw.cs] at hb2
  have hl2 : (K ++ [AObj.cells [[iv r.id]] 2]).length = K.length + 1 := by simp
  rw [hl2] at hin
  refine Awp.seq ?_
  repeat' ((fail_if_success (apply stopR (id := 13))); (fail_if_success (apply stopS (id := 13))); first | refine spD (fun _ => ?_) (fun _ => ?_) | refine spF (fun _ => ?_) (fun _ => ?_) | (apply gT; (exact rfl)) | (apply off; (exact rfl); (exact rfl)) | (apply condT; (exact rfl)) | (apply condF; (exact rfl)) | ((first | (apply stp0; (exact rfl); (exact rfl)) | (apply stpN0; (exact rfl)) | apply gT | apply condT | ((first | apply bodyQ_d0 | apply bodyQ_d1 | apply bodyQ_d2 | apply bodyQ_d3 | apply bodyQ_d4); (exact .inr rfl); (rw [Try.results24]))); (first | (focus (simp only [go_sem, ↓reduceIte, simprocAttr, t2, t3, t9, hb, hbb, hb2] <;> rfl)) | exact rfl); (first | (fail_if_success (show okD _ _ _ _ _ _ _ _ _)) | (first | exact trivial | exact ⟨fun _ => rfl, fun _ _ => rfl, fun h => Bool.noConfusion (show false = true from h)⟩ | (refine ⟨fun _ => rfl, fun _ _ => rfl, fun _ H2 hk => ?_⟩; have e := (hk (F.b) (beq_self_eq_true _)).trans (hb); unfold PerfTo; simp only [callOf]; (focus first | (simp only [go_sem, ↓reduceIte, simprocAttr, t2, t3, t9, hb, hbb, hb2, e]; done) | (simp only [go_sem, ↓reduceIte, simprocAttr, t2, t3, t9, hb, hbb, hb2, e]; rfl))) | (refine ⟨fun h => Bool.noConfusion (show true = false from h), fun b hQ => ?_, fun h => Bool.noConfusion (show false = true from h)⟩; have hQ' := eq_of_beq hQ; subst hQ'; (first | (focus (simp only [hbb, hb]; done)) | (exact hb2.trans hb.symm) | (exact hb2.trans (hbb.2.1 _).symm))))); (first | (fail_if_success (show Bel _ _)) | (focus first | exact .val _ | (simp [oneOf, Bel_iff_tup, Bel_iff_agg, Bel_iff_rsl, Bel_iff_fn, Bel_iff_rptr, Bel_val]; done)))) | (apply calTo0; (exact rfl); (iterate 2 (simp only [go_sem, ↓reduceIte, simprocAttr, t2, t3, t9, hb, hbb, hb2]; rfl)); (first | exact hin); (first | exact trivial | exact ⟨fun _ => rfl, fun _ _ => rfl, fun h => Bool.noConfusion (show false = true from h)⟩ | (refine ⟨fun _ => rfl, fun _ _ => rfl, fun _ H2 hk => ?_⟩; have e := (hk (F.b) (beq_self_eq_true _)).trans (hb); unfold PerfTo; simp only [callOf]; (focus first | (simp only [go_sem, ↓reduceIte, simprocAttr, t2, t3, t9, hb, hbb, hb2, e]; done) | (simp only [go_sem, ↓reduceIte, simprocAttr, t2, t3, t9, hb, hbb, hb2, e]; rfl))) | (refine ⟨fun h => Bool.noConfusion (show true = false from h), fun b hQ => ?_, fun h => Bool.noConfusion (show false = true from h)⟩; have hQ' := eq_of_beq hQ; subst hQ'; (first | (focus (simp only [hbb, hb]; done)) | (exact hb2.trans hb.symm) | (exact hb2.trans (hbb.2.1 _).symm))))) | refine thenQ_n ?_ | refine thenQ_r ?_ | refine thenQ_e ?_ | refine blockQ_n ?_ | refine blockQ_r ?_ | refine blockQ_e ?_ | (apply blockQ_o; (exact rfl)) | refine Awp.seq ?_ | refine Awp.skip ?_ | refine Awp.block ?_ | refine reg (fun s => s == 7 || s == 54) ?_ | (apply drwL mixed (fun s => s == 7 || s == 54) ⟨fun i => i == 8 || i == 9, fun i => i == 0 || i == 1 || i == 4 || i == 7, fun b => b == F.b⟩; (exact rfl); (kernel_rfl); (kernel_rfl); simp only [List.pop_toArray, List.dropLast_cons_cons, List.dropLast_singleton, List.map_cons, List.map_nil]) | refine fin ?_ | refine Awp.ret ?_ | refine Awp.exit ?_ | ((first | (apply off; (exact rfl)) | apply condF); (first | (focus (simp only [go_sem, ↓reduceIte, simprocAttr, t2, t3, t9, hb, hbb, hb2] <;> rfl)) | exact rfl)))
  all_goals first | contradiction | (exfalso; omega) | skip
  have hl3 : (idsL S.L).length + 1 = (insA (placeN S.L r) r.id (idsL S.L)).length := insA_len.symm
  obtain ⟨R3, F3⟩ := hR2.setB w.used w.time (.msl (K.length + 1) 0 ((idsL S.L).length + 1))
  have b3 := R3.hb
  have u3 := mT40.upd R3.hr r.id (.agg [iv r.id, iv r.cls, iv r.made, iv r.size, iv r.pk])
  obtain ⟨R4, F4⟩ := R3.setR (setM r.id (.agg [iv r.id, iv r.cls, iv r.made, iv r.size, iv r.pk]) w.kr)
  have b4 := R4.hb
  obtain ⟨R5, F5⟩ := R4.setB (w.used + r.size) w.time (.msl (K.length + 1) 0 ((idsL S.L).length + 1))
  have hus := hg.used
  have hok := hr
  simp only [Item.ok] at hok
  have w5 : IntKind.i64.wrap (w.used + r.size) = w.used + r.size := by rw [hR.used]; exact w64 (by omega) (by omega)
  simp only [Rw.cs] at b3 b4
  refine Awp.withT (fun T' => T' 2 = .rptr [.mptr F.b 0 0] 0 ∧ T' 3 = .rptr [iv r.id, iv r.cls, iv r.made, iv r.size, iv r.pk] 0) ⟨?_, ?_⟩ ?_
  · (first | (focus (simp only [go_sem, ↓reduceIte, simprocAttr, t2]; first | done | rfl)) | rfl)
  · (first | (focus (simp only [go_sem, ↓reduceIte, simprocAttr, t3]; first | done | rfl)) | rfl)
  clear t2 t3 t9 hbb T
  rintro T ⟨t2, t3⟩
  repeat' ((fail_if_success (apply stopR (id := 15))); (fail_if_success (apply stopS (id := 15))); first | refine spD (fun _ => ?_) (fun _ => ?_) | refine spF (fun _ => ?_) (fun _ => ?_) | (apply gT; (exact rfl)) | (apply off; (exact rfl); (exact rfl)) | (apply condT; (exact rfl)) | (apply condF; (exact rfl)) | ((first | (apply stp0; (exact rfl); (exact rfl)) | (apply stpN0; (exact rfl)) | apply gT | apply condT | ((first | apply bodyQ_d0 | apply bodyQ_d1 | apply bodyQ_d2 | apply bodyQ_d3 | apply bodyQ_d4); (exact .inr rfl); (rw [Try.results24]))); (first | (focus (simp only [go_sem, ↓reduceIte, simprocAttr, t2, t3, b3, b4, u3, w5] <;> rfl)) | exact rfl); (first | (fail_if_success (show okD _ _ _ _ _ _ _ _ _)) | (first | exact okT | exact okN | exact okE rfl)); (first | (fail_if_success (show Bel _ _)) | (focus first | exact .val _ | (simp [oneOf, Bel_iff_tup, Bel_iff_agg, Bel_iff_rsl, Bel_iff_fn, Bel_iff_rptr, Bel_val]; done)))) | refine thenQ_n ?_ | refine thenQ_r ?_ | refine thenQ_e ?_ | refine blockQ_n ?_ | refine blockQ_r ?_ | refine blockQ_e ?_ | (apply blockQ_o; (exact rfl)) | refine Awp.seq ?_ | refine Awp.skip ?_ | refine Awp.block ?_ | refine reg (fun s => s == 7) ?_ | (apply drwL mixed (fun s => s == 7) (.of fun _ => false); (exact rfl); (kernel_rfl); (kernel_rfl); simp only [List.pop_toArray, List.dropLast_cons_cons, List.dropLast_singleton, List.map_cons, List.map_nil]) | refine fin ?_ | refine Awp.ret ?_ | refine Awp.exit ?_ | ((first | (apply off; (exact rfl)) | apply condF); (first | (focus (simp only [go_sem, ↓reduceIte, simprocAttr, t2, t3, b3, b4, u3, w5] <;> rfl)) | exact rfl)))
  all_goals first | contradiction | (exfalso; omega) | skip
  have hKl : ∀ o n, w.ord = .msl o 0 n → o < K.length := fun o n e => by
    obtain ⟨v, hv, _⟩ := hO.blk e
    exact (List.getElem?_eq_some_iff.1 hv).1
  have hrow : (ownK (K ++ [AObj.cells [[iv r.id]] 2]) w.ord ++ [.cells (ints (insA (placeN S.L r) r.id (idsL S.L))) 2])[K.length + 1]? = some (.cells (ints (insA (placeN S.L r) r.id (idsL S.L))) 2) := by
    have e : (ownK (K ++ [AObj.cells [[iv r.id]] 2]) w.ord).length = K.length + 1 := by rw [ownK_len]; simp
    rw [← e]; exact get_new _ _
  have hid : idsL (S.ins r).L = insA (placeN S.L r) r.id (idsL S.L) := insA_map _ _ _ _
  have hor : OrdAt (ownK (K ++ [AObj.cells [[iv r.id]] 2]) w.ord ++ [.cells (ints (insA (placeN S.L r) r.id (idsL S.L))) 2]) (.msl (K.length + 1) 0 ((idsL S.L).length + 1)) (idsL (S.ins r).L) := by
    have := OrdAt.row (n := (idsL S.L).length + 1) hrow (by rw [hl3]; exact Nat.le_refl _) (by rw [← hl3]; omega)
    rw [List.take_of_length_le (by rw [hl3]; exact Nat.le_refl _)] at this
    rw [hid]; exact this
  have q1 := ((hor.set hR2.hb (fun v => b109_ne v) (.cells [[iv w.cap, iv w.used, iv w.time, .msl (K.length + 1) 0 ((idsL S.L).length + 1), .mp F.r, .mp F.s, .mp F.t]] 109)).set R3.hr (fun v => amap_ne v) (.amap (ents (setM r.id (.agg [iv r.id, iv r.cls, iv r.made, iv r.size, iv r.pk]) w.kr)))).set R4.hb (fun v => b109_ne v) (.cells [[iv w.cap, iv (w.used + r.size), iv w.time, .msl (K.length + 1) 0 ((idsL S.L).length + 1), .mp F.r, .mp F.s, .mp F.t]] 109)
  have q2 : MapIs (setM r.id (.agg [iv r.id, iv r.cls, iv r.made, iv r.size, iv r.pk]) w.kr) (recF (S.ins r).L) := hR.mr.set _ _ fun y => by
    show recF (insA (placeN S.L r) ⟨r, false, -1⟩ S.L) y = _
    unfold recF; rw [findH_ins (x := ⟨r, false, -1⟩) y _ _ hn]
    split <;> rfl
  have q3 : MapIs w.ks (smF (S.ins r).L) := hR.ms.congr fun y => by
    show smF (insA (placeN S.L r) ⟨r, false, -1⟩ S.L) y = _
    unfold smF; rw [findH_ins (x := ⟨r, false, -1⟩) y _ _ hn]
    split
    · rename_i e
      have e2 : findH S.L y = none := findH_none.2 (by rw [e]; exact hn)
      rw [e2]; rfl
    · rfl
  have q4 : MapIs w.kt (stF (S.ins r).L) := hR.mt.congr fun y => by
    show stF (insA (placeN S.L r) ⟨r, false, -1⟩ S.L) y = _
    unfold stF; rw [findH_ins (x := ⟨r, false, -1⟩) y _ _ hn]
    split
    · rename_i e
      have e2 : findH S.L y = none := findH_none.2 (by rw [e]; exact hn)
      rw [e2]; rfl
    · rfl
  have hF : FrO F w K (ownK (K ++ [AObj.cells [[iv r.id]] 2]) w.ord ++ [.cells (ints (insA (placeN S.L r) r.id (idsL S.L))) 2]) := ((((Fr.refl F K).app _).o (w := w)).own hO).app _
  refine h _ _ _ ?_ (Rep.mk (S := S.ins r) R5 hR.cap (by show w.used + r.size = S.used + r.size; rw [hR.used]) hR.time q1 q2 q3 q4) (((hF.trans F3).trans F4).trans F5) ⟨_, rfl⟩
  (first | (focus (simp only [go_sem, ↓reduceIte, simprocAttr, t2]; first | done | rfl)) | rfl)

end Go.Proofs.Ytlhchnnfgppneaa.Ab
