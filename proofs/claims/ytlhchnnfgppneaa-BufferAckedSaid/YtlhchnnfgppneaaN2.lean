/- Buffers: how a buffer lies in memory; valid, bytes, remove, Used. -/
import Derived.Test.YtlhchnnfgppneaaN1
namespace Go.Proofs.Ytlhchnnfgppneaa.Ab
open Go Go.RowKit Go.Proofs
set_option linter.unusedSimpArgs false
set_option linter.unusedVariables false
attribute [local irreducible] Awp wpO thenQ blockQ bodyQ ACalls stepA

theorem MapT.look0 {t et : TypeId} {z : AV} {H : Hp} {b : Nat} {ks : List (Int × AV)} (hT : MapT t et z) (hb : H[b]? = some (.amap (ents ks))) (x : Int) :
    lookA Try.prog t (.mp b) (iv x) true H = some (.tup [(getM ks x).getD z, bv (getM ks x).isSome]) ∧ lookA Try.prog t (.mp b) (iv x) false H = some ((getM ks x).getD z) := by
  obtain ⟨v, h1, h2⟩ := hT.zero
  have e4 : entsA (.mp b) H = some (ents ks) := by unfold entsA; simp only [hb]
  unfold lookA
  simp only [hT.und, key2, h1, e4, findA_M]
  unfold getM
  cases findM x ks 0 with
  | none => simp [h2]
  | some p => simp

structure Ft where
  b : Nat
  r : Nat
  s : Nat
  t : Nat
structure Rw where
  cap : Int
  used : Int
  time : Int
  ord : AV
  kr : List (Int × AV)
  ks : List (Int × AV)
  kt : List (Int × AV)
def Rw.cs (w : Rw) (F : Ft) : List AV := [iv w.cap, iv w.used, iv w.time, w.ord, .mp F.r, .mp F.s, .mp F.t]
structure RepW (H : Hp) (F : Ft) (w : Rw) : Prop where
  hb : H[F.b]? = some (.cells [w.cs F] 109)
  hr : H[F.r]? = some (.amap (ents w.kr))
  hs : H[F.s]? = some (.amap (ents w.ks))
  ht : H[F.t]? = some (.amap (ents w.kt))
  rs : F.r ≠ F.s
  rt : F.r ≠ F.t
  st : F.s ≠ F.t
/-- nothing else has turned -/
structure Fr (F : Ft) (H H' : Hp) : Prop where
  len : H.length ≤ H'.length
  old : ∀ j, j < H.length → j ≠ F.b → j ≠ F.r → j ≠ F.s → j ≠ F.t → H'[j]? = H[j]?
theorem Fr.refl (F : Ft) (H : Hp) : Fr F H H := ⟨Nat.le_refl _, fun _ _ _ _ _ _ => rfl⟩
theorem Fr.trans {F : Ft} {H H' H'' : Hp} (h : Fr F H H') (k : Fr F H' H'') : Fr F H H'' :=
  ⟨Nat.le_trans h.len k.len, fun j hj a b c d => (k.old j (Nat.lt_of_lt_of_le hj h.len) a b c d).trans (h.old j hj a b c d)⟩
theorem Fr.app {F : Ft} {H H' : Hp} (h : Fr F H H') (X : Hp) : Fr F H (H' ++ X) :=
  ⟨by have := h.len; simp; omega, fun j hj a b c d => by rw [List.getElem?_append_left (by have := h.len; omega)]; exact h.old j hj a b c d⟩
theorem RepW.ne {H : Hp} {F : Ft} {w : Rw} (h : RepW H F w) : F.b ≠ F.r ∧ F.b ≠ F.s ∧ F.b ≠ F.t := by
  have h1 := h.hb
  refine ⟨fun e => ?_, fun e => ?_, fun e => ?_⟩
  · have := h.hr; rw [← e, h1] at this; simp at this
  · have := h.hs; rw [← e, h1] at this; simp at this
  · have := h.ht; rw [← e, h1] at this; simp at this
theorem RepW.app {H : Hp} {F : Ft} {w : Rw} (h : RepW H F w) (X : Hp) : RepW (H ++ X) F w :=
  ⟨(held h.hb).2.1 X, (held h.hr).2.1 X, (held h.hs).2.1 X, (held h.ht).2.1 X, h.rs, h.rt, h.st⟩
theorem RepW.grow {H H' : Hp} {F : Ft} {w : Rw} (h : RepW H F w) (hG : Grow H H') : RepW H' F w :=
  ⟨hG.get h.hb, hG.get h.hr, hG.get h.hs, hG.get h.ht, h.rs, h.rt, h.st⟩
section
variable {H : Hp} {F : Ft} {w : Rw}
/-- the struct turns -/
theorem RepW.setB (h : RepW H F w) (u t : Int) (o : AV) : RepW (H.set F.b (.cells [[iv w.cap, iv u, iv t, o, .mp F.r, .mp F.s, .mp F.t]] 109)) F { w with used := u, time := t, ord := o } ∧ Fr F H (H.set F.b (.cells [[iv w.cap, iv u, iv t, o, .mp F.r, .mp F.s, .mp F.t]] 109)) := by
  obtain ⟨n1, n2, n3⟩ := h.ne
  refine ⟨⟨(heldS h.hb).1 _, (heldO n1 h.hr).1 _, (heldO n2 h.hs).1 _, (heldO n3 h.ht).1 _, h.rs, h.rt, h.st⟩, by simp, fun j _ a b c d => List.getElem?_set_ne (Ne.symm a)⟩
theorem RepW.setR (h : RepW H F w) (k : List (Int × AV)) : RepW (H.set F.r (.amap (ents k))) F { w with kr := k } ∧ Fr F H (H.set F.r (.amap (ents k))) := by
  obtain ⟨n1, n2, n3⟩ := h.ne
  refine ⟨⟨(heldO (Ne.symm n1) h.hb).1 _, (heldS h.hr).1 _, (heldO h.rs h.hs).1 _, (heldO h.rt h.ht).1 _, h.rs, h.rt, h.st⟩, by simp, fun j _ a b c d => List.getElem?_set_ne (Ne.symm b)⟩
theorem RepW.setS (h : RepW H F w) (k : List (Int × AV)) : RepW (H.set F.s (.amap (ents k))) F { w with ks := k } ∧ Fr F H (H.set F.s (.amap (ents k))) := by
  obtain ⟨n1, n2, n3⟩ := h.ne
  refine ⟨⟨(heldO (Ne.symm n2) h.hb).1 _, (heldO (Ne.symm h.rs) h.hr).1 _, (heldS h.hs).1 _, (heldO h.st h.ht).1 _, h.rs, h.rt, h.st⟩, by simp, fun j _ a b c d => List.getElem?_set_ne (Ne.symm c)⟩
theorem RepW.setT (h : RepW H F w) (k : List (Int × AV)) : RepW (H.set F.t (.amap (ents k))) F { w with kt := k } ∧ Fr F H (H.set F.t (.amap (ents k))) := by
  obtain ⟨n1, n2, n3⟩ := h.ne
  refine ⟨⟨(heldO (Ne.symm n3) h.hb).1 _, (heldO (Ne.symm h.rt) h.hr).1 _, (heldO (Ne.symm h.st) h.hs).1 _, (heldS h.ht).1 _, h.rs, h.rt, h.st⟩, by simp, fun j _ a b c d => List.getElem?_set_ne (Ne.symm d)⟩
end

set_option maxRecDepth 8000 in
theorem valid_ok {H : Hp} {F : Ft} {w : Rw} (h : RepW H F w) : CallsTo Try.prog 56 [.mptr F.b 0 0] H (bv true) H := by
  have hb := h.hb
  simp only [Rw.cs] at hb
  refine ACalls.of_body Try.func56 rfl (by kernel_rfl) (by rw [Try.ntmps56]; simp) ?_; rw [Try.ntmps56]
  repeat' (first | refine spD (fun _ => ?_) (fun _ => ?_) | refine spF (fun _ => ?_) (fun _ => ?_) | (apply gT; (exact rfl)) | (apply off; (exact rfl); (exact rfl)) | (apply condT; (exact rfl)) | (apply condF; (exact rfl)) | ((first | (apply stp0; (exact rfl); (exact rfl)) | (apply stpN0; (exact rfl)) | apply gT | apply condT | ((first | apply bodyQ_d0 | apply bodyQ_d1 | apply bodyQ_d2 | apply bodyQ_d3 | apply bodyQ_d4); (exact .inr rfl); (rw [Try.results56]))); (first | (focus (simp only [go_sem, ↓reduceIte, simprocAttr, hb] <;> rfl)) | exact rfl); (first | (fail_if_success (show okD _ _ _ _ _ _ _ _ _)) | (first | exact okT | exact okN | exact okE rfl)); (first | (fail_if_success (show Bel _ _)) | (focus first | exact .val _ | (simp [oneOf, Bel_iff_tup, Bel_iff_agg, Bel_iff_rsl, Bel_iff_fn, Bel_iff_rptr, Bel_val]; done)))) | refine thenQ_n ?_ | refine thenQ_r ?_ | refine thenQ_e ?_ | refine blockQ_n ?_ | refine blockQ_r ?_ | refine blockQ_e ?_ | (apply blockQ_o; (exact rfl)) | refine Awp.seq ?_ | refine Awp.skip ?_ | refine Awp.block ?_ | refine reg (fun s => false) ?_ | (apply drwE mixed (fun s => false); (kernel_rfl)) | refine fin ?_ | refine Awp.ret ?_ | refine Awp.exit ?_ | ((first | (apply off; (exact rfl)) | apply condF); (first | (focus (simp only [go_sem, ↓reduceIte, simprocAttr, hb] <;> rfl)) | exact rfl)))
  all_goals first | rfl | contradiction | (exfalso; omega) | skip

set_option maxRecDepth 8000 in
theorem bytes_ok {H : Hp} {F : Ft} {w : Rw} (h : RepW H F w) (id : Int) (r : Item) (sm : Int) (h1 : (getM w.kr id).getD recZ = .agg r.cs) (h2 : (getM w.ks id).getD (iv 0) = iv sm) :
    CallsTo Try.prog 63 [.mptr F.b 0 0, iv id] H (iv (if sm > 0 then r.pk else r.size)) H := by
  have hb := h.hb
  simp only [Rw.cs] at hb
  have l1 := (mT40.look0 h.hr id).2
  rw [h1] at l1
  simp only [Item.cs] at l1
  have l2 : ∀ X, lookA Try.prog 106 (.mp F.s) (iv id) false (H ++ X) = some (iv sm) := fun X => by rw [(mT106.look0 ((held h.hs).2.1 X) id).2, h2]
  have hb2 := held hb
  by_cases hs : sm > 0
  · rw [if_pos hs]
    refine ACalls.of_body Try.func63 rfl (by kernel_rfl) (by rw [Try.ntmps63]; simp) ?_; rw [Try.ntmps63]
    repeat' (first | refine spD (fun _ => ?_) (fun _ => ?_) | refine spF (fun _ => ?_) (fun _ => ?_) | (apply gT; (exact rfl)) | (apply off; (exact rfl); (exact rfl)) | (apply condT; (exact rfl)) | (apply condF; (exact rfl)) | ((first | (apply stp0; (exact rfl); (exact rfl)) | (apply stpN0; (exact rfl)) | apply gT | apply condT | ((first | apply bodyQ_d0 | apply bodyQ_d1 | apply bodyQ_d2 | apply bodyQ_d3 | apply bodyQ_d4); (exact .inr rfl); (rw [Try.results63]))); (first | (focus (simp only [go_sem, ↓reduceIte, simprocAttr, hb, hb2, l1, l2, hs] <;> rfl)) | exact rfl); (first | (fail_if_success (show okD _ _ _ _ _ _ _ _ _)) | (first | exact okT | exact okN | exact okE rfl)); (first | (fail_if_success (show Bel _ _)) | (focus first | exact .val _ | (simp [oneOf, Bel_iff_tup, Bel_iff_agg, Bel_iff_rsl, Bel_iff_fn, Bel_iff_rptr, Bel_val]; done)))) | refine thenQ_n ?_ | refine thenQ_r ?_ | refine thenQ_e ?_ | refine blockQ_n ?_ | refine blockQ_r ?_ | refine blockQ_e ?_ | (apply blockQ_o; (exact rfl)) | refine Awp.seq ?_ | refine Awp.skip ?_ | refine Awp.block ?_ | refine reg (fun s => s == 5) ?_ | (apply drwE mixed (fun s => s == 5); (kernel_rfl)) | refine fin ?_ | refine Awp.ret ?_ | refine Awp.exit ?_ | ((first | (apply off; (exact rfl)) | apply condF); (first | (focus (simp only [go_sem, ↓reduceIte, simprocAttr, hb, hb2, l1, l2, hs] <;> rfl)) | exact rfl)))
    all_goals first | rfl | contradiction | (exfalso; omega) | skip
  · rw [if_neg hs]
    refine ACalls.of_body Try.func63 rfl (by kernel_rfl) (by rw [Try.ntmps63]; simp) ?_; rw [Try.ntmps63]
    repeat' (first | refine spD (fun _ => ?_) (fun _ => ?_) | refine spF (fun _ => ?_) (fun _ => ?_) | (apply gT; (exact rfl)) | (apply off; (exact rfl); (exact rfl)) | (apply condT; (exact rfl)) | (apply condF; (exact rfl)) | ((first | (apply stp0; (exact rfl); (exact rfl)) | (apply stpN0; (exact rfl)) | apply gT | apply condT | ((first | apply bodyQ_d0 | apply bodyQ_d1 | apply bodyQ_d2 | apply bodyQ_d3 | apply bodyQ_d4); (exact .inr rfl); (rw [Try.results63]))); (first | (focus (simp only [go_sem, ↓reduceIte, simprocAttr, hb, hb2, l1, l2, hs] <;> rfl)) | exact rfl); (first | (fail_if_success (show okD _ _ _ _ _ _ _ _ _)) | (first | exact okT | exact okN | exact okE rfl)); (first | (fail_if_success (show Bel _ _)) | (focus first | exact .val _ | (simp [oneOf, Bel_iff_tup, Bel_iff_agg, Bel_iff_rsl, Bel_iff_fn, Bel_iff_rptr, Bel_val]; done)))) | refine thenQ_n ?_ | refine thenQ_r ?_ | refine thenQ_e ?_ | refine blockQ_n ?_ | refine blockQ_r ?_ | refine blockQ_e ?_ | (apply blockQ_o; (exact rfl)) | refine Awp.seq ?_ | refine Awp.skip ?_ | refine Awp.block ?_ | refine reg (fun s => s == 5) ?_ | (apply drwE mixed (fun s => s == 5); (kernel_rfl)) | refine fin ?_ | refine Awp.ret ?_ | refine Awp.exit ?_ | ((first | (apply off; (exact rfl)) | apply condF); (first | (focus (simp only [go_sem, ↓reduceIte, simprocAttr, hb, hb2, l1, l2, hs] <;> rfl)) | exact rfl)))
    all_goals first | rfl | contradiction | (exfalso; omega) | skip

set_option maxRecDepth 8000 in
theorem Used_ok {H : Hp} {F : Ft} {w : Rw} (h : RepW H F w) : CallsTo Try.prog 28 [.mptr F.b 0 0] H (iv w.used) H := by
  have hb := h.hb
  simp only [Rw.cs] at hb
  have hv := valid_ok h
  refine ACalls.of_body Try.func28 rfl (by kernel_rfl) (by rw [Try.ntmps28]; simp) ?_; rw [Try.ntmps28]
  repeat' (first | refine spD (fun _ => ?_) (fun _ => ?_) | refine spF (fun _ => ?_) (fun _ => ?_) | (apply gT; (exact rfl)) | (apply off; (exact rfl); (exact rfl)) | (apply condT; (exact rfl)) | (apply condF; (exact rfl)) | ((first | (apply stp0; (exact rfl); (exact rfl)) | (apply stpN0; (exact rfl)) | apply gT | apply condT | ((first | apply bodyQ_d0 | apply bodyQ_d1 | apply bodyQ_d2 | apply bodyQ_d3 | apply bodyQ_d4); (exact .inr rfl); (rw [Try.results28]))); (first | (focus (simp only [go_sem, ↓reduceIte, simprocAttr, hb] <;> rfl)) | exact rfl); (first | (fail_if_success (show okD _ _ _ _ _ _ _ _ _)) | (first | exact okT | exact okN | exact okE rfl)); (first | (fail_if_success (show Bel _ _)) | (focus first | exact .val _ | (simp [oneOf, Bel_iff_tup, Bel_iff_agg, Bel_iff_rsl, Bel_iff_fn, Bel_iff_rptr, Bel_val]; done)))) | (apply calTo0; (exact rfl); (iterate 2 (simp only [go_sem, ↓reduceIte, simprocAttr, hb]; rfl)); (first | exact hv); (first | exact okT | exact okN | exact okE rfl)) | refine thenQ_n ?_ | refine thenQ_r ?_ | refine thenQ_e ?_ | refine blockQ_n ?_ | refine blockQ_r ?_ | refine blockQ_e ?_ | (apply blockQ_o; (exact rfl)) | refine Awp.seq ?_ | refine Awp.skip ?_ | refine Awp.block ?_ | refine reg (fun s => false) ?_ | (apply drwE mixed (fun s => false); (kernel_rfl)) | refine fin ?_ | refine Awp.ret ?_ | refine Awp.exit ?_ | ((first | (apply off; (exact rfl)) | apply condF); (first | (focus (simp only [go_sem, ↓reduceIte, simprocAttr, hb] <;> rfl)) | exact rfl)))
  all_goals first | rfl | contradiction | (exfalso; omega) | skip

set_option maxRecDepth 8000 in
theorem remove_ok {H : Hp} {F : Ft} {w : Rw} (h : RepW H F w) (id : Int) (r : Item) (sm : Int) (h1 : (getM w.kr id).getD recZ = .agg r.cs) (h2 : (getM w.ks id).getD (iv 0) = iv sm) (hu : -1099511627776 ≤ w.used - (if sm > 0 then r.pk else r.size) ∧ w.used - (if sm > 0 then r.pk else r.size) ≤ 1099511627776) :
    ACalls Try.prog 61 [.mptr F.b 0 0, iv id] H fun v1 H1 => v1 = .tup [] ∧ RepW H1 F { w with used := w.used - (if sm > 0 then r.pk else r.size), kr := delM id w.kr, ks := delM id w.ks, kt := delM id w.kt } ∧ Fr F H H1 := by
  have hb := h.hb
  simp only [Rw.cs] at hb
  have hy := bytes_ok h id r sm h1 h2
  generalize (if sm > 0 then r.pk else r.size) = y at *
  have wy : IntKind.i64.wrap (w.used - y) = w.used - y := w64 (by omega) (by omega)
  obtain ⟨R1, F1⟩ := h.setB (w.used - y) w.time w.ord
  obtain ⟨R2, F2⟩ := R1.setR (delM id w.kr)
  obtain ⟨R3, F3⟩ := R2.setS (delM id w.ks)
  obtain ⟨R4, F4⟩ := R3.setT (delM id w.kt)
  have d1 := mT40.del R1.hr id
  have d2 := mT106.del R2.hs id
  have d3 := mT107.del R3.ht id
  have b1 := R1.hb
  have b2 := R2.hb
  have b3 := R3.hb
  simp only [Rw.cs] at b1 b2 b3 d1 d2 d3
  refine ACalls.of_body Try.func61 rfl (by kernel_rfl) (by rw [Try.ntmps61]; simp) ?_; rw [Try.ntmps61]
  repeat' (first | refine spD (fun _ => ?_) (fun _ => ?_) | refine spF (fun _ => ?_) (fun _ => ?_) | (apply gT; (exact rfl)) | (apply off; (exact rfl); (exact rfl)) | (apply condT; (exact rfl)) | (apply condF; (exact rfl)) | ((first | (apply stp0; (exact rfl); (exact rfl)) | (apply stpN0; (exact rfl)) | apply gT | apply condT | ((first | apply bodyQ_d0 | apply bodyQ_d1 | apply bodyQ_d2 | apply bodyQ_d3 | apply bodyQ_d4); (exact .inr rfl); (rw [Try.results61]))); (first | (focus (simp only [go_sem, ↓reduceIte, simprocAttr, hb, wy, b1, b2, b3, d1, d2, d3] <;> rfl)) | exact rfl); (first | (fail_if_success (show okD _ _ _ _ _ _ _ _ _)) | (first | exact okT | exact okN | exact okE rfl)); (first | (fail_if_success (show Bel _ _)) | (focus first | exact .val _ | (simp [oneOf, Bel_iff_tup, Bel_iff_agg, Bel_iff_rsl, Bel_iff_fn, Bel_iff_rptr, Bel_val]; done)))) | (apply calTo0; (exact rfl); (iterate 2 (simp only [go_sem, ↓reduceIte, simprocAttr, hb, wy, b1, b2, b3, d1, d2, d3]; rfl)); (first | exact hy); (first | exact okT | exact okN | exact okE rfl)) | refine thenQ_n ?_ | refine thenQ_r ?_ | refine thenQ_e ?_ | refine blockQ_n ?_ | refine blockQ_r ?_ | refine blockQ_e ?_ | (apply blockQ_o; (exact rfl)) | refine Awp.seq ?_ | refine Awp.skip ?_ | refine Awp.block ?_ | refine reg (fun s => false) ?_ | (apply drwL mixed (fun s => false) (.of fun _ => false); (exact rfl); (kernel_rfl); (kernel_rfl); simp only [List.pop_toArray, List.dropLast_cons_cons, List.dropLast_singleton, List.map_cons, List.map_nil]) | refine fin ?_ | refine Awp.ret ?_ | refine Awp.exit ?_ | ((first | (apply off; (exact rfl)) | apply condF); (first | (focus (simp only [go_sem, ↓reduceIte, simprocAttr, hb, wy, b1, b2, b3, d1, d2, d3] <;> rfl)) | exact rfl)))
  all_goals first | contradiction | (exfalso; omega) | skip
  refine bodyQ_mk (vs := []) (.inl rfl) ?_ (Vs.refl _ _ _) ?_
  · rw [Try.results61]; first | (simp only [go_sem, ↓reduceIte, simprocAttr]; done) | (simp only [go_sem, ↓reduceIte, simprocAttr]; rfl)
  · exact ⟨rfl, R4, ((F1.trans F2).trans F3).trans F4⟩

end Go.Proofs.Ytlhchnnfgppneaa.Ab
