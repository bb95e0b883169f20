/- Buffers: maps with integer keys. Buffers: how a buffer lies in memory; valid, bytes, remove, Used. Loops over functions, by heaps that have grown; slices.Backward. Buffers: what a buffer holds; compress. -/
import Derived.Test.YtlhchnnfgppneaaYF
namespace Go.Proofs.Ytlhchnnfgppneaa.Ab
open Go Go.RowKit Go.Proofs
set_option linter.unusedSimpArgs false
set_option linter.unusedVariables false
attribute [local irreducible] Awp wpO thenQ blockQ bodyQ ACalls stepA

def findM (x : Int) : List (Int × AV) → Nat → Option (Nat × AV)
  | [], _ => none
  | p :: l, i => if x = p.1 then some (i, p.2) else findM x l (i + 1)
def ents (ks : List (Int × AV)) : List (AV × AV) := ks.map fun p => (iv p.1, p.2)
theorem findA_M (x : Int) : ∀ (ks : List (Int × AV)) (i : Nat), findA .i64 x (ents ks) i = some (findM x ks i)
  | [], i => rfl
  | p :: l, i => by
    show (if IntKind.i64 = IntKind.i64 then (if x = p.1 then some (some (i, p.2)) else findA .i64 x (ents l) (i + 1)) else none) = _
    rw [if_pos rfl]
    unfold findM
    split
    · rfl
    · exact findA_M x l (i + 1)
theorem findM_shift (x : Int) : ∀ (ks : List (Int × AV)) (i : Nat), findM x ks i = (findM x ks 0).map fun p => (p.1 + i, p.2)
  | [], i => rfl
  | p :: l, i => by
    unfold findM
    split
    · simp
    · rw [findM_shift x l (i + 1), findM_shift x l (0 + 1)]
      cases findM x l 0 with
      | none => rfl
      | some q => simp; omega

/-- what a map holds -/
def getM (ks : List (Int × AV)) (x : Int) : Option AV := (findM x ks 0).map (·.2)
theorem getM_nil (x : Int) : getM [] x = none := rfl
theorem getM_cons (p : Int × AV) (l : List (Int × AV)) (x : Int) : getM (p :: l) x = if x = p.1 then some p.2 else getM l x := by
  unfold getM
  conv => lhs; unfold findM
  split
  · rfl
  · rw [findM_shift]
    cases findM x l 0 <;> rfl
def setM (x : Int) (v : AV) (ks : List (Int × AV)) : List (Int × AV) := match findM x ks 0 with
  | some (i, _) => ks.set i (x, v)
  | none => ks ++ [(x, v)]
def delM (x : Int) (ks : List (Int × AV)) : List (Int × AV) := match findM x ks 0 with
  | some (i, _) => ks.eraseIdx i
  | none => ks
theorem getM_none {x : Int} : ∀ {ks : List (Int × AV)}, getM ks x = none ↔ x ∉ ks.map (·.1)
  | [] => by simp [getM_nil]
  | p :: l => by
    rw [getM_cons]
    split
    · rename_i h; simp [h]
    · rename_i h; rw [getM_none]; simp [h]
theorem setM_cons (x : Int) (v : AV) (p : Int × AV) (l : List (Int × AV)) : setM x v (p :: l) = if x = p.1 then (x, v) :: l else p :: setM x v l := by
  unfold setM
  conv => lhs; unfold findM
  split
  · rename_i h
    split at h
    · rename_i e; cases h; simp [e]
    · rename_i e
      rw [if_neg e]
      rw [findM_shift] at h
      cases hf : findM x l 0 with
      | none => rw [hf] at h; cases h
      | some q => rw [hf] at h; simp at h; obtain ⟨rfl, rfl⟩ := h; rfl
  · rename_i h
    split at h
    · cases h
    · rename_i e
      rw [if_neg e]
      rw [findM_shift] at h
      cases hf : findM x l 0 with
      | none => rfl
      | some q => rw [hf] at h; cases h
theorem delM_cons (x : Int) (p : Int × AV) (l : List (Int × AV)) : delM x (p :: l) = if x = p.1 then l else p :: delM x l := by
  unfold delM
  conv => lhs; unfold findM
  split
  · rename_i h
    split at h
    · rename_i e; cases h; simp [e]
    · rename_i e
      rw [if_neg e]
      rw [findM_shift] at h
      cases hf : findM x l 0 with
      | none => rw [hf] at h; cases h
      | some q => rw [hf] at h; simp at h; obtain ⟨rfl, rfl⟩ := h; rfl
  · rename_i h
    split at h
    · cases h
    · rename_i e
      rw [if_neg e]
      rw [findM_shift] at h
      cases hf : findM x l 0 with
      | none => rfl
      | some q => rw [hf] at h; cases h
theorem getM_set (x : Int) (v : AV) : ∀ (ks : List (Int × AV)) (y : Int), getM (setM x v ks) y = if y = x then some v else getM ks y
  | [], y => by
    show getM [(x, v)] y = _
    rw [getM_cons]
  | p :: l, y => by
    rw [setM_cons]
    by_cases e : x = p.1
    · rw [if_pos e, getM_cons, getM_cons]
      by_cases k : y = x
      · rw [if_pos k, if_pos k]
      · rw [if_neg k, if_neg k, if_neg (by rw [← e]; exact k)]
    · rw [if_neg e, getM_cons, getM_cons, getM_set x v l y]
      by_cases k : y = p.1
      · rw [if_pos k, if_pos k, if_neg (by rw [k]; exact Ne.symm e)]
      · rw [if_neg k, if_neg k]
theorem setM_keys (x : Int) (v : AV) : ∀ (ks : List (Int × AV)), (ks.map (·.1)).Nodup → ((setM x v ks).map (·.1)).Nodup ∧ ∀ y, y ∈ (setM x v ks).map (·.1) → y = x ∨ y ∈ ks.map (·.1)
  | [], _ => by
    show ([(x, v)].map (·.1)).Nodup ∧ _
    simp [setM, findM]
  | p :: l, h => by
    rw [setM_cons]
    simp only [List.map_cons, List.nodup_cons] at h
    by_cases e : x = p.1
    · rw [if_pos e]
      simp only [List.map_cons, List.nodup_cons, List.mem_cons]
      exact ⟨⟨by rw [e]; exact h.1, h.2⟩, fun y hy => by rcases hy with h | h; exact .inl h; exact .inr (.inr h)⟩
    · rw [if_neg e]
      obtain ⟨h1, h2⟩ := setM_keys x v l h.2
      simp only [List.map_cons, List.nodup_cons, List.mem_cons]
      refine ⟨⟨fun m => ?_, h1⟩, fun y hy => ?_⟩
      · rcases h2 _ m with k | k
        · exact e k.symm
        · exact h.1 k
      · rcases hy with k | k
        · exact .inr (.inl k)
        · rcases h2 y k with k | k
          · exact .inl k
          · exact .inr (.inr k)
theorem getM_del {x : Int} : ∀ (ks : List (Int × AV)), (ks.map (·.1)).Nodup → ∀ y, getM (delM x ks) y = if y = x then none else getM ks y
  | [], _, y => by simp [delM, findM, getM_nil]
  | p :: l, h, y => by
    simp only [List.map_cons, List.nodup_cons] at h
    rw [delM_cons]
    by_cases e : x = p.1
    · rw [if_pos e, getM_cons]
      by_cases k : y = x
      · rw [if_pos k, getM_none, k, e]; exact h.1
      · rw [if_neg k, if_neg (by rw [← e]; exact k)]
    · rw [if_neg e, getM_cons, getM_cons, getM_del l h.2 y]
      by_cases k : y = p.1
      · rw [if_pos k, if_pos k, if_neg (by rw [k]; exact Ne.symm e)]
      · rw [if_neg k, if_neg k]
theorem delM_keys {x : Int} : ∀ (ks : List (Int × AV)), (ks.map (·.1)).Nodup → ((delM x ks).map (·.1)).Nodup ∧ ∀ y, y ∈ (delM x ks).map (·.1) → y ∈ ks.map (·.1)
  | [], _ => by simp [delM, findM]
  | p :: l, h => by
    simp only [List.map_cons, List.nodup_cons] at h
    rw [delM_cons]
    by_cases e : x = p.1
    · rw [if_pos e]
      exact ⟨h.2, fun y hy => by simp [hy]⟩
    · rw [if_neg e]
      obtain ⟨h1, h2⟩ := delM_keys (x := x) l h.2
      simp only [List.map_cons, List.nodup_cons, List.mem_cons]
      exact ⟨⟨fun m => h.1 (h2 _ m), h1⟩, fun y hy => by rcases hy with k | k; exact .inl k; exact .inr (h2 y k)⟩

/-- a map's entries tell a function -/
structure MapIs (ks : List (Int × AV)) (f : Int → Option AV) : Prop where
  nd : (ks.map (·.1)).Nodup
  get : ∀ x, getM ks x = f x
theorem MapIs.set {ks : List (Int × AV)} {f : Int → Option AV} (h : MapIs ks f) (x : Int) (v : AV) {f' : Int → Option AV} (hf : ∀ y, f' y = if y = x then some v else f y) : MapIs (setM x v ks) f' :=
  ⟨(setM_keys x v ks h.nd).1, fun y => by rw [getM_set, h.get, hf]⟩
theorem MapIs.del {ks : List (Int × AV)} {f : Int → Option AV} (h : MapIs ks f) (x : Int) {f' : Int → Option AV} (hf : ∀ y, f' y = if y = x then none else f y) : MapIs (delM x ks) f' :=
  ⟨(delM_keys ks h.nd).1, fun y => by rw [getM_del ks h.nd, h.get, hf]⟩
theorem MapIs.nil : MapIs [] (fun _ => none) := ⟨by simp, fun _ => rfl⟩

section
variable {H : Hp} {b : Nat} {ks : List (Int × AV)} {f : Int → Option AV} {t et : TypeId} {z : AV}
/-- a type of maps from integers -/
structure MapT (t et : TypeId) (z : AV) : Prop where
  und : Try.prog.underlying t = some (.map 2 et)
  zero : ∃ v, zeroV Try.prog et = some v ∧ unV v = z
theorem key2 : intKey Try.prog 2 = some .i64 := by unfold intKey; rw [Try.underlying2]
theorem MapT.look (hT : MapT t et z) (h : MapIs ks f) (hb : H[b]? = some (.amap (ents ks))) (x : Int) (ok : Bool) :
    lookA Try.prog t (.mp b) (iv x) ok H = some (match f x with | some v => if ok then .tup [v, bv true] else v | none => if ok then .tup [z, bv false] else z) := by
  obtain ⟨v, h1, h2⟩ := hT.zero
  have e4 : entsA (.mp b) H = some (ents ks) := by unfold entsA; simp only [hb]
  unfold lookA
  simp only [hT.und, key2, h1, e4, findA_M]
  rw [← h.get x]
  unfold getM
  cases findM x ks 0 with
  | none => cases ok <;> simp [h2]
  | some p => cases ok <;> rfl
theorem MapT.upd (hT : MapT t et z) (hb : H[b]? = some (.amap (ents ks))) (x : Int) (v : AV) : updA Try.prog t (.mp b) (iv x) v H = some (H.set b (.amap (ents (setM x v ks)))) := by
  unfold updA
  simp only [hT.und, key2, hb, findA_M]
  unfold setM
  cases findM x ks 0 with
  | none => simp [ents]
  | some p => simp [ents, List.map_set]
theorem eraseIdx_map {α β : Type} (g : α → β) : ∀ (l : List α) (i : Nat), (l.map g).eraseIdx i = (l.eraseIdx i).map g
  | [], _ => rfl
  | _ :: _, 0 => rfl
  | x :: l, i + 1 => by simp [eraseIdx_map g l i]
theorem MapT.del (hT : MapT t et z) (hb : H[b]? = some (.amap (ents ks))) (x : Int) : delA Try.prog t (.mp b) (iv x) H = some (H.set b (.amap (ents (delM x ks)))) := by
  unfold delA
  simp only [hT.und, key2, hb, findA_M]
  unfold delM
  cases findM x ks 0 with
  | none => rfl
  | some p => simp [ents, eraseIdx_map]
end

def recZ : AV := .agg [iv 0, iv 0, iv 0, iv 0, iv 0]
theorem mT40 : MapT 40 23 recZ := ⟨by kernel_rfl, ⟨.agg #[.int .i64 0, .int .i64 0, .int .i64 0, .int .i64 0, .int .i64 0], by unfold zeroV; kernel_rfl, rfl⟩⟩
theorem mT106 : MapT 106 3 (iv 0) := ⟨by kernel_rfl, ⟨.int .i64 0, by unfold zeroV; kernel_rfl, rfl⟩⟩
theorem mT107 : MapT 107 2 (iv 0) := ⟨by kernel_rfl, ⟨.int .i64 0, by unfold zeroV; kernel_rfl, rfl⟩⟩

end Go.Proofs.Ytlhchnnfgppneaa.Ab
namespace Go.Proofs.Ytlhchnnfgppneaa.Ab
open Go Go.RowKit Go.Proofs
set_option linter.unusedSimpArgs false
set_option linter.unusedVariables false
attribute [local irreducible] Awp wpO thenQ blockQ bodyQ ACalls stepA

theorem MapT.look0 {t et : TypeId} {z : AV} {H : Hp} {b : Nat} {ks : List (Int × AV)} (hT : MapT t et z) (hb : H[b]? = some (.amap (ents ks))) (x : Int) :
    lookA Try.prog t (.mp b) (iv x) true H = some (.tup [(getM ks x).getD z, bv (getM ks x).isSome]) ∧ lookA Try.prog t (.mp b) (iv x) false H = some ((getM ks x).getD z) := by
  obtain ⟨v, h1, h2⟩ := hT.zero
  have e4 : entsA (.mp b) H = some (ents ks) := by unfold entsA; simp only [hb]
  unfold lookA
  simp only [hT.und, key2, h1, e4, findA_M]
  unfold getM
  cases findM x ks 0 with
  | none => simp [h2]
  | some p => simp

structure Ft where
  b : Nat
  r : Nat
  s : Nat
  t : Nat
structure Rw where
  cap : Int
  used : Int
  time : Int
  ord : AV
  kr : List (Int × AV)
  ks : List (Int × AV)
  kt : List (Int × AV)
def Rw.cs (w : Rw) (F : Ft) : List AV := [iv w.cap, iv w.used, iv w.time, w.ord, .mp F.r, .mp F.s, .mp F.t]
structure RepW (H : Hp) (F : Ft) (w : Rw) : Prop where
  hb : H[F.b]? = some (.cells [w.cs F] 109)
  hr : H[F.r]? = some (.amap (ents w.kr))
  hs : H[F.s]? = some (.amap (ents w.ks))
  ht : H[F.t]? = some (.amap (ents w.kt))
  rs : F.r ≠ F.s
  rt : F.r ≠ F.t
  st : F.s ≠ F.t
/-- nothing else has turned -/
structure Fr (F : Ft) (H H' : Hp) : Prop where
  len : H.length ≤ H'.length
  old : ∀ j, j < H.length → j ≠ F.b → j ≠ F.r → j ≠ F.s → j ≠ F.t → H'[j]? = H[j]?
theorem Fr.refl (F : Ft) (H : Hp) : Fr F H H := ⟨Nat.le_refl _, fun _ _ _ _ _ _ => rfl⟩
theorem Fr.trans {F : Ft} {H H' H'' : Hp} (h : Fr F H H') (k : Fr F H' H'') : Fr F H H'' :=
  ⟨Nat.le_trans h.len k.len, fun j hj a b c d => (k.old j (Nat.lt_of_lt_of_le hj h.len) a b c d).trans (h.old j hj a b c d)⟩
theorem Fr.app {F : Ft} {H H' : Hp} (h : Fr F H H') (X : Hp) : Fr F H (H' ++ X) :=
  ⟨by have := h.len; simp; omega, fun j hj a b c d => by rw [List.getElem?_append_left (by have := h.len; omega)]; exact h.old j hj a b c d⟩
theorem RepW.ne {H : Hp} {F : Ft} {w : Rw} (h : RepW H F w) : F.b ≠ F.r ∧ F.b ≠ F.s ∧ F.b ≠ F.t := by
  have h1 := h.hb
  refine ⟨fun e => ?_, fun e => ?_, fun e => ?_⟩
  · have := h.hr; rw [← e, h1] at this; simp at this
  · have := h.hs; rw [← e, h1] at this; simp at this
  · have := h.ht; rw [← e, h1] at this; simp at this
theorem RepW.app {H : Hp} {F : Ft} {w : Rw} (h : RepW H F w) (X : Hp) : RepW (H ++ X) F w :=
  ⟨(held h.hb).2.1 X, (held h.hr).2.1 X, (held h.hs).2.1 X, (held h.ht).2.1 X, h.rs, h.rt, h.st⟩
theorem RepW.grow {H H' : Hp} {F : Ft} {w : Rw} (h : RepW H F w) (hG : Grow H H') : RepW H' F w :=
  ⟨hG.get h.hb, hG.get h.hr, hG.get h.hs, hG.get h.ht, h.rs, h.rt, h.st⟩
section
variable {H : Hp} {F : Ft} {w : Rw}
/-- the struct turns -/
theorem RepW.setB (h : RepW H F w) (u t : Int) (o : AV) : RepW (H.set F.b (.cells [[iv w.cap, iv u, iv t, o, .mp F.r, .mp F.s, .mp F.t]] 109)) F { w with used := u, time := t, ord := o } ∧ Fr F H (H.set F.b (.cells [[iv w.cap, iv u, iv t, o, .mp F.r, .mp F.s, .mp F.t]] 109)) := by
  obtain ⟨n1, n2, n3⟩ := h.ne
  refine ⟨⟨(heldS h.hb).1 _, (heldO n1 h.hr).1 _, (heldO n2 h.hs).1 _, (heldO n3 h.ht).1 _, h.rs, h.rt, h.st⟩, by simp, fun j _ a b c d => List.getElem?_set_ne (Ne.symm a)⟩
theorem RepW.setR (h : RepW H F w) (k : List (Int × AV)) : RepW (H.set F.r (.amap (ents k))) F { w with kr := k } ∧ Fr F H (H.set F.r (.amap (ents k))) := by
  obtain ⟨n1, n2, n3⟩ := h.ne
  refine ⟨⟨(heldO (Ne.symm n1) h.hb).1 _, (heldS h.hr).1 _, (heldO h.rs h.hs).1 _, (heldO h.rt h.ht).1 _, h.rs, h.rt, h.st⟩, by simp, fun j _ a b c d => List.getElem?_set_ne (Ne.symm b)⟩
theorem RepW.setS (h : RepW H F w) (k : List (Int × AV)) : RepW (H.set F.s (.amap (ents k))) F { w with ks := k } ∧ Fr F H (H.set F.s (.amap (ents k))) := by
  obtain ⟨n1, n2, n3⟩ := h.ne
  refine ⟨⟨(heldO (Ne.symm n2) h.hb).1 _, (heldO (Ne.symm h.rs) h.hr).1 _, (heldS h.hs).1 _, (heldO h.st h.ht).1 _, h.rs, h.rt, h.st⟩, by simp, fun j _ a b c d => List.getElem?_set_ne (Ne.symm c)⟩
theorem RepW.setT (h : RepW H F w) (k : List (Int × AV)) : RepW (H.set F.t (.amap (ents k))) F { w with kt := k } ∧ Fr F H (H.set F.t (.amap (ents k))) := by
  obtain ⟨n1, n2, n3⟩ := h.ne
  refine ⟨⟨(heldO (Ne.symm n3) h.hb).1 _, (heldO (Ne.symm h.rt) h.hr).1 _, (heldO (Ne.symm h.st) h.hs).1 _, (heldS h.ht).1 _, h.rs, h.rt, h.st⟩, by simp, fun j _ a b c d => List.getElem?_set_ne (Ne.symm d)⟩
end

set_option maxRecDepth 8000 in
theorem valid_ok {H : Hp} {F : Ft} {w : Rw} (h : RepW H F w) : CallsTo Try.prog 56 [.mptr F.b 0 0] H (bv true) H := by
  have hb := h.hb
  simp only [Rw.cs] at hb
  refine ACalls.of_body Try.func56 rfl (by kernel_rfl) (by rw [Try.ntmps56]; simp) ?_; rw [Try.ntmps56]
  repeat' (first | refine spD (fun _ => ?_) (fun _ => ?_) | refine spF (fun _ => ?_) (fun _ => ?_) | (apply gT; (exact rfl)) | (apply off; (exact rfl); (exact rfl)) | (apply condT; (exact rfl)) | (apply condF; (exact rfl)) | ((first | (apply stp0; (exact rfl); (exact rfl)) | (apply stpN0; (exact rfl)) | apply gT | apply condT | ((first | apply bodyQ_d0 | apply bodyQ_d1 | apply bodyQ_d2 | apply bodyQ_d3 | apply bodyQ_d4); (exact .inr rfl); (rw [Try.results56]))); (first | (focus (simp only [go_sem, ↓reduceIte, simprocAttr, hb] <;> rfl)) | exact rfl); (first | (fail_if_success (show okD _ _ _ _ _ _ _ _ _)) | (first | exact okT | exact okN | exact okE rfl)); (first | (fail_if_success (show Bel _ _)) | (focus first | exact .val _ | (simp [oneOf, Bel_iff_tup, Bel_iff_agg, Bel_iff_rsl, Bel_iff_fn, Bel_iff_rptr, Bel_val]; done)))) | refine thenQ_n ?_ | refine thenQ_r ?_ | refine thenQ_e ?_ | refine blockQ_n ?_ | refine blockQ_r ?_ | refine blockQ_e ?_ | (apply blockQ_o; (exact rfl)) | refine Awp.seq ?_ | refine Awp.skip ?_ | refine Awp.block ?_ | refine reg (fun s => false) ?_ | (apply drwE mixed (fun s => false); (kernel_rfl)) | refine fin ?_ | refine Awp.ret ?_ | refine Awp.exit ?_ | ((first | (apply off; (exact rfl)) | apply condF); (first | (focus (simp only [go_sem, ↓reduceIte, simprocAttr, hb] <;> rfl)) | exact rfl)))
  all_goals first | rfl | contradiction | (exfalso; omega) | skip

set_option maxRecDepth 8000 in
theorem bytes_ok {H : Hp} {F : Ft} {w : Rw} (h : RepW H F w) (id : Int) (r : Item) (sm : Int) (h1 : (getM w.kr id).getD recZ = .agg r.cs) (h2 : (getM w.ks id).getD (iv 0) = iv sm) :
    CallsTo Try.prog 63 [.mptr F.b 0 0, iv id] H (iv (if sm > 0 then r.pk else r.size)) H := by
  have hb := h.hb
  simp only [Rw.cs] at hb
  have l1 := (mT40.look0 h.hr id).2
  rw [h1] at l1
  simp only [Item.cs] at l1
  have l2 : ∀ X, lookA Try.prog 106 (.mp F.s) (iv id) false (H ++ X) = some (iv sm) := fun X => by rw [(mT106.look0 ((held h.hs).2.1 X) id).2, h2]
  have hb2 := held hb
  by_cases hs : sm > 0
  · rw [if_pos hs]
    refine ACalls.of_body Try.func63 rfl (by kernel_rfl) (by rw [Try.ntmps63]; simp) ?_; rw [Try.ntmps63]
    repeat' (first | refine spD (fun _ => ?_) (fun _ => ?_) | refine spF (fun _ => ?_) (fun _ => ?_) | (apply gT; (exact rfl)) | (apply off; (exact rfl); (exact rfl)) | (apply condT; (exact rfl)) | (apply condF; (exact rfl)) | ((first | (apply stp0; (exact rfl); (exact rfl)) | (apply stpN0; (exact rfl)) | apply gT | apply condT | ((first | apply bodyQ_d0 | apply bodyQ_d1 | apply bodyQ_d2 | apply bodyQ_d3 | apply bodyQ_d4); (exact .inr rfl); (rw [Try.results63]))); (first | (focus (simp only [go_sem, ↓reduceIte, simprocAttr, hb, hb2, l1, l2, hs] <;> rfl)) | exact rfl); (first | (fail_if_success (show okD _ _ _ _ _ _ _ _ _)) | (first | exact okT | exact okN | exact okE rfl)); (first | (fail_if_success (show Bel _ _)) | (focus first | exact .val _ | (simp [oneOf, Bel_iff_tup, Bel_iff_agg, Bel_iff_rsl, Bel_iff_fn, Bel_iff_rptr, Bel_val]; done)))) | refine thenQ_n ?_ | refine thenQ_r ?_ | refine thenQ_e ?_ | refine blockQ_n ?_ | refine blockQ_r ?_ | refine blockQ_e ?_ | (apply blockQ_o; (exact rfl)) | refine Awp.seq ?_ | refine Awp.skip ?_ | refine Awp.block ?_ | refine reg (fun s => s == 5) ?_ | (apply drwE mixed (fun s => s == 5); (kernel_rfl)) | refine fin ?_ | refine Awp.ret ?_ | refine Awp.exit ?_ | ((first | (apply off; (exact rfl)) | apply condF); (first | (focus (simp only [go_sem, ↓reduceIte, simprocAttr, hb, hb2, l1, l2, hs] <;> rfl)) | exact rfl)))
    all_goals first | rfl | contradiction | (exfalso; omega) | skip
  · rw [if_neg hs]
    refine ACalls.of_body Try.func63 rfl (by kernel_rfl) (by rw [Try.ntmps63]; simp) ?_; rw [Try.ntmps63]
    repeat' (first | refine spD (fun _ => ?_) (fun _ => ?_) | refine spF (fun _ => ?_) (fun _ => ?_) | (apply gT; (exact rfl)) | (apply off; (exact rfl); (exact rfl)) | (apply condT; (exact rfl)) | (apply condF; (exact rfl)) | ((first | (apply stp0; (exact rfl); (exact rfl)) | (apply stpN0; (exact rfl)) | apply gT | apply condT | ((first | apply bodyQ_d0 | apply bodyQ_d1 | apply bodyQ_d2 | apply bodyQ_d3 | apply bodyQ_d4); (exact .inr rfl); (rw [Try.results63]))); (first | (focus (simp only [go_sem, ↓reduceIte, simprocAttr, hb, hb2, l1, l2, hs] <;> rfl)) | exact rfl); (first | (fail_if_success (show okD _ _ _ _ _ _ _ _ _)) | (first | exact okT | exact okN | exact okE rfl)); (first | (fail_if_success (show Bel _ _)) | (focus first | exact .val _ | (simp [oneOf, Bel_iff_tup, Bel_iff_agg, Bel_iff_rsl, Bel_iff_fn, Bel_iff_rptr, Bel_val]; done)))) | refine thenQ_n ?_ | refine thenQ_r ?_ | refine thenQ_e ?_ | refine blockQ_n ?_ | refine blockQ_r ?_ | refine blockQ_e ?_ | (apply blockQ_o; (exact rfl)) | refine Awp.seq ?_ | refine Awp.skip ?_ | refine Awp.block ?_ | refine reg (fun s => s == 5) ?_ | (apply drwE mixed (fun s => s == 5); (kernel_rfl)) | refine fin ?_ | refine Awp.ret ?_ | refine Awp.exit ?_ | ((first | (apply off; (exact rfl)) | apply condF); (first | (focus (simp only [go_sem, ↓reduceIte, simprocAttr, hb, hb2, l1, l2, hs] <;> rfl)) | exact rfl)))
    all_goals first | rfl | contradiction | (exfalso; omega) | skip

set_option maxRecDepth 8000 in
theorem Used_ok {H : Hp} {F : Ft} {w : Rw} (h : RepW H F w) : CallsTo Try.prog 28 [.mptr F.b 0 0] H (iv w.used) H := by
  have hb := h.hb
  simp only [Rw.cs] at hb
  have hv := valid_ok h
  refine ACalls.of_body Try.func28 rfl (by kernel_rfl) (by rw [Try.ntmps28]; simp) ?_; rw [Try.ntmps28]
  repeat' (first | refine spD (fun _ => ?_) (fun _ => ?_) | refine spF (fun _ => ?_) (fun _ => ?_) | (apply gT; (exact rfl)) | (apply off; (exact rfl); (exact rfl)) | (apply condT; (exact rfl)) | (apply condF; (exact rfl)) | ((first | (apply stp0; (exact rfl); (exact rfl)) | (apply stpN0; (exact rfl)) | apply gT | apply condT | ((first | apply bodyQ_d0 | apply bodyQ_d1 | apply bodyQ_d2 | apply bodyQ_d3 | apply bodyQ_d4); (exact .inr rfl); (rw [Try.results28]))); (first | (focus (simp only [go_sem, ↓reduceIte, simprocAttr, hb] <;> rfl)) | exact rfl); (first | (fail_if_success (show okD _ _ _ _ _ _ _ _ _)) | (first | exact okT | exact okN | exact okE rfl)); (first | (fail_if_success (show Bel _ _)) | (focus first | exact .val _ | (simp [oneOf, Bel_iff_tup, Bel_iff_agg, Bel_iff_rsl, Bel_iff_fn, Bel_iff_rptr, Bel_val]; done)))) | (apply calTo0; (exact rfl); (iterate 2 (simp only [go_sem, ↓reduceIte, simprocAttr, hb]; rfl)); (first | exact hv); (first | exact okT | exact okN | exact okE rfl)) | refine thenQ_n ?_ | refine thenQ_r ?_ | refine thenQ_e ?_ | refine blockQ_n ?_ | refine blockQ_r ?_ | refine blockQ_e ?_ | (apply blockQ_o; (exact rfl)) | refine Awp.seq ?_ | refine Awp.skip ?_ | refine Awp.block ?_ | refine reg (fun s => false) ?_ | (apply drwE mixed (fun s => false); (kernel_rfl)) | refine fin ?_ | refine Awp.ret ?_ | refine Awp.exit ?_ | ((first | (apply off; (exact rfl)) | apply condF); (first | (focus (simp only [go_sem, ↓reduceIte, simprocAttr, hb] <;> rfl)) | exact rfl)))
  all_goals first | rfl | contradiction | (exfalso; omega) | skip

set_option maxRecDepth 8000 in
theorem remove_ok {H : Hp} {F : Ft} {w : Rw} (h : RepW H F w) (id : Int) (r : Item) (sm : Int) (h1 : (getM w.kr id).getD recZ = .agg r.cs) (h2 : (getM w.ks id).getD (iv 0) = iv sm) (hu : -1099511627776 ≤ w.used - (if sm > 0 then r.pk else r.size) ∧ w.used - (if sm > 0 then r.pk else r.size) ≤ 1099511627776) :
    ACalls Try.prog 61 [.mptr F.b 0 0, iv id] H fun v1 H1 => v1 = .tup [] ∧ RepW H1 F { w with used := w.used - (if sm > 0 then r.pk else r.size), kr := delM id w.kr, ks := delM id w.ks, kt := delM id w.kt } ∧ Fr F H H1 := by
  have hb := h.hb
  simp only [Rw.cs] at hb
  have hy := bytes_ok h id r sm h1 h2
  generalize (if sm > 0 then r.pk else r.size) = y at *
  have wy : IntKind.i64.wrap (w.used - y) = w.used - y := w64 (by omega) (by omega)
  obtain ⟨R1, F1⟩ := h.setB (w.used - y) w.time w.ord
  obtain ⟨R2, F2⟩ := R1.setR (delM id w.kr)
  obtain ⟨R3, F3⟩ := R2.setS (delM id w.ks)
  obtain ⟨R4, F4⟩ := R3.setT (delM id w.kt)
  have d1 := mT40.del R1.hr id
  have d2 := mT106.del R2.hs id
  have d3 := mT107.del R3.ht id
  have b1 := R1.hb
  have b2 := R2.hb
  have b3 := R3.hb
  simp only [Rw.cs] at b1 b2 b3 d1 d2 d3
  refine ACalls.of_body Try.func61 rfl (by kernel_rfl) (by rw [Try.ntmps61]; simp) ?_; rw [Try.ntmps61]
  repeat' (first | refine spD (fun _ => ?_) (fun _ => ?_) | refine spF (fun _ => ?_) (fun _ => ?_) | (apply gT; (exact rfl)) | (apply off; (exact rfl); (exact rfl)) | (apply condT; (exact rfl)) | (apply condF; (exact rfl)) | ((first | (apply stp0; (exact rfl); (exact rfl)) | (apply stpN0; (exact rfl)) | apply gT | apply condT | ((first | apply bodyQ_d0 | apply bodyQ_d1 | apply bodyQ_d2 | apply bodyQ_d3 | apply bodyQ_d4); (exact .inr rfl); (rw [Try.results61]))); (first | (focus (simp only [go_sem, ↓reduceIte, simprocAttr, hb, wy, b1, b2, b3, d1, d2, d3] <;> rfl)) | exact rfl); (first | (fail_if_success (show okD _ _ _ _ _ _ _ _ _)) | (first | exact okT | exact okN | exact okE rfl)); (first | (fail_if_success (show Bel _ _)) | (focus first | exact .val _ | (simp [oneOf, Bel_iff_tup, Bel_iff_agg, Bel_iff_rsl, Bel_iff_fn, Bel_iff_rptr, Bel_val]; done)))) | (apply calTo0; (exact rfl); (iterate 2 (simp only [go_sem, ↓reduceIte, simprocAttr, hb, wy, b1, b2, b3, d1, d2, d3]; rfl)); (first | exact hy); (first | exact okT | exact okN | exact okE rfl)) | refine thenQ_n ?_ | refine thenQ_r ?_ | refine thenQ_e ?_ | refine blockQ_n ?_ | refine blockQ_r ?_ | refine blockQ_e ?_ | (apply blockQ_o; (exact rfl)) | refine Awp.seq ?_ | refine Awp.skip ?_ | refine Awp.block ?_ | refine reg (fun s => false) ?_ | (apply drwL mixed (fun s => false) (.of fun _ => false); (exact rfl); (kernel_rfl); (kernel_rfl); simp only [List.pop_toArray, List.dropLast_cons_cons, List.dropLast_singleton, List.map_cons, List.map_nil]) | refine fin ?_ | refine Awp.ret ?_ | refine Awp.exit ?_ | ((first | (apply off; (exact rfl)) | apply condF); (first | (focus (simp only [go_sem, ↓reduceIte, simprocAttr, hb, wy, b1, b2, b3, d1, d2, d3] <;> rfl)) | exact rfl)))
  all_goals first | contradiction | (exfalso; omega) | skip
  refine bodyQ_mk (vs := []) (.inl rfl) ?_ (Vs.refl _ _ _) ?_
  · rw [Try.results61]; first | (simp only [go_sem, ↓reduceIte, simprocAttr]; done) | (simp only [go_sem, ↓reduceIte, simprocAttr]; rfl)
  · exact ⟨rfl, R4, ((F1.trans F2).trans F3).trans F4⟩

end Go.Proofs.Ytlhchnnfgppneaa.Ab
namespace Go.Proofs.Ytlhchnnfgppneaa.Ab
open Go Go.RowKit Go.Proofs
set_option linter.unusedSimpArgs false
set_option linter.unusedVariables false
attribute [local irreducible] Awp wpO thenQ blockQ bodyQ ACalls stepA

/-- a round of a loop over a function -/
theorem yieldOf {P : Program} {b : Nat} {f : FuncId} {T : Env} {n : Nat} {ps : Array Tmp} {assign body : Code} {D : Nat} {args : List AV} {H1 : Hp}
    (hbk : H1[b]? = some (.loop .ready none f T n ps assign body D)) (hl : args.length = ps.size) (hps : ∀ p ∈ ps.toList, p < n) (Nx Rq : Hp → Prop)
    (h : Awp P n (some b) assign (setPs T (ps.toList.zip args)) H1 (fun e T1 H1' => e = .normal ∧ H1' = H1 ∧ Awp P n (some b) body T1 (H1.set b (.loop .busy none f T n ps assign body D)) (fun e T2 H2 => H2[b]? = some (.loop .busy none f T n ps assign body D) ∧
      match e with | .normal => Nx (H2.set b (.loop .ready none f T n ps assign body D)) | .ret => Rq (H2.set b .dead) | _ => False))) :
    AYield P b args H1 (fun v1 H2 => (v1 = .val (.bool true) ∧ Nx H2 ∧ H2[b]? = some (.loop .ready none f T n ps assign body D)) ∨ (v1 = .val (.bool false) ∧ H2[b]? = some (.loop .done (some .ret) f T n ps assign body D) ∧ Rq (H2.set b .dead))) := by
  refine AYield.of_body hbk hl hps ?_
  refine Awp.mono h fun e T1 H1' ⟨he, hH, hbody⟩ => ?_
  subst hH
  refine ⟨he, none, f, T, n, ps, assign, body, D, hbk, ?_⟩
  refine Awp.mono hbody fun e T2 H2 ⟨hb2, hpost⟩ => ?_
  have hlt := (List.getElem?_eq_some_iff.1 hb2).1
  refine ⟨.busy, none, f, T, n, ps, assign, body, D, hb2, ?_⟩
  cases e with
  | normal => exact ⟨_, Vs.refl _ _ _, .inl ⟨rfl, hpost, List.getElem?_set_self hlt⟩⟩
  | ret =>
    refine ⟨_, Vs.refl _ _ _, .inr ⟨rfl, List.getElem?_set_self hlt, ?_⟩⟩
    rw [List.set_set]; exact hpost
  | _ => exact hpost.elim

/-- a list of numbers, as a slice that may turn -/
inductive OrdAt (H : Hp) : AV → List Int → Prop
  | nil : OrdAt H nilS []
  | emp : OrdAt H (.rsl [] true) []
  | row {o n : Nat} {v : List Int} (hb : H[o]? = some (.cells (ints v) 2)) (hn : n ≤ v.length) (h0 : 0 < v.length) : OrdAt H (.msl o 0 n) (v.take n)
theorem OrdAt.get {H H' : Hp} {a : AV} {ids : List Int} (h : OrdAt H a ids) (hk : ∀ o n v, a = .msl o 0 n → H[o]? = some (.cells (ints v) 2) → H'[o]? = some (.cells (ints v) 2)) : OrdAt H' a ids := by
  cases h with
  | nil => exact .nil
  | emp => exact .emp
  | row hb hn h0 => exact .row (hk _ _ _ rfl hb) hn h0
theorem OrdAt.grow {H H' : Hp} {a : AV} {ids : List Int} (h : OrdAt H a ids) (hG : Grow H H') : OrdAt H' a ids := h.get fun _ _ _ _ h => hG.get h
theorem OrdAt.set {H : Hp} {a : AV} {ids : List Int} (h : OrdAt H a ids) {s : Nat} {ob : AObj} (hs : H[s]? = some ob) (hne : ∀ v, ob ≠ .cells (ints v) 2) (c : AObj) : OrdAt (H.set s c) a ids := h.get fun o n v _ hb => by
  rw [List.getElem?_set_ne]
  · exact hb
  · rintro rfl; rw [hs] at hb; exact hne v (by simpa using hb)
theorem OrdAt.blk {H : Hp} {a : AV} {ids : List Int} (h : OrdAt H a ids) {o m : Nat} (e : a = .msl o 0 m) : ∃ v, H[o]? = some (.cells (ints v) 2) ∧ m ≤ v.length ∧ 0 < v.length ∧ ids = v.take m := by
  cases h with
  | nil => cases e
  | emp => cases e
  | row hb hn h0 => cases e; exact ⟨_, hb, hn, h0, rfl⟩
theorem b109_ne {cs : List AV} (v : List Int) : AObj.cells [cs] 109 ≠ .cells (ints v) 2 := fun e => by injection e with _ e; cases e
theorem amap_ne {es : List (AV × AV)} (v : List Int) : AObj.amap es ≠ .cells (ints v) 2 := fun e => by cases e
theorem OrdAt.len {H : Hp} {a : AV} {ids : List Int} (h : OrdAt H a ids) (K : Hp) : lenA Try.prog 46 a K = some (iv ids.length) := by
  cases h with
  | nil => unfold lenA; simp only [Try.underlying46]; rfl
  | emp => unfold lenA; simp only [Try.underlying46]; rfl
  | row hb hn h0 =>
    unfold lenA; simp only [Try.underlying46]
    rw [List.length_take, Nat.min_eq_left hn]

set_option maxRecDepth 8000 in
theorem backward_ok (H : Hp) (a : AV) (ids : List Int) (h : OrdAt H a ids) : CallsTo Try.prog 96 [a] H (.fn (.func 115) [.rptr [a] 0]) H := by
  cases h with
  | nil =>
    refine ACalls.of_body Try.func96 rfl (by kernel_rfl) (by rw [Try.ntmps96]; simp) ?_; rw [Try.ntmps96]
    repeat' (first | refine spD (fun _ => ?_) (fun _ => ?_) | refine spF (fun _ => ?_) (fun _ => ?_) | (apply gT; (exact rfl)) | (apply off; (exact rfl); (exact rfl)) | (apply condT; (exact rfl)) | (apply condF; (exact rfl)) | ((first | (apply stp0; (exact rfl); (exact rfl)) | (apply stpN0; (exact rfl)) | apply gT | apply condT | ((first | apply bodyQ_d0 | apply bodyQ_d1 | apply bodyQ_d2 | apply bodyQ_d3 | apply bodyQ_d4); (exact .inr rfl); (rw [Try.results96]))); (first | (focus (simp only [go_sem, ↓reduceIte, simprocAttr] <;> rfl)) | exact rfl); (first | (fail_if_success (show okD _ _ _ _ _ _ _ _ _)) | (first | exact okT | exact okN | exact okE rfl)); (first | (fail_if_success (show Bel _ _)) | (focus first | exact .val _ | (simp [oneOf, Bel_iff_tup, Bel_iff_agg, Bel_iff_rsl, Bel_iff_fn, Bel_iff_rptr, Bel_val]; done)))) | refine thenQ_n ?_ | refine thenQ_r ?_ | refine thenQ_e ?_ | refine blockQ_n ?_ | refine blockQ_r ?_ | refine blockQ_e ?_ | (apply blockQ_o; (exact rfl)) | refine Awp.seq ?_ | refine Awp.skip ?_ | refine Awp.block ?_ | refine reg (fun s => false) ?_ | (apply drwE mixed (fun s => false); (kernel_rfl)) | refine fin ?_ | refine Awp.ret ?_ | refine Awp.exit ?_ | ((first | (apply off; (exact rfl)) | apply condF); (first | (focus (simp only [go_sem, ↓reduceIte, simprocAttr] <;> rfl)) | exact rfl)))
    all_goals first | rfl | contradiction | (exfalso; omega) | skip
  | emp =>
    refine ACalls.of_body Try.func96 rfl (by kernel_rfl) (by rw [Try.ntmps96]; simp) ?_; rw [Try.ntmps96]
    repeat' (first | refine spD (fun _ => ?_) (fun _ => ?_) | refine spF (fun _ => ?_) (fun _ => ?_) | (apply gT; (exact rfl)) | (apply off; (exact rfl); (exact rfl)) | (apply condT; (exact rfl)) | (apply condF; (exact rfl)) | ((first | (apply stp0; (exact rfl); (exact rfl)) | (apply stpN0; (exact rfl)) | apply gT | apply condT | ((first | apply bodyQ_d0 | apply bodyQ_d1 | apply bodyQ_d2 | apply bodyQ_d3 | apply bodyQ_d4); (exact .inr rfl); (rw [Try.results96]))); (first | (focus (simp only [go_sem, ↓reduceIte, simprocAttr] <;> rfl)) | exact rfl); (first | (fail_if_success (show okD _ _ _ _ _ _ _ _ _)) | (first | exact okT | exact okN | exact okE rfl)); (first | (fail_if_success (show Bel _ _)) | (focus first | exact .val _ | (simp [oneOf, Bel_iff_tup, Bel_iff_agg, Bel_iff_rsl, Bel_iff_fn, Bel_iff_rptr, Bel_val]; done)))) | refine thenQ_n ?_ | refine thenQ_r ?_ | refine thenQ_e ?_ | refine blockQ_n ?_ | refine blockQ_r ?_ | refine blockQ_e ?_ | (apply blockQ_o; (exact rfl)) | refine Awp.seq ?_ | refine Awp.skip ?_ | refine Awp.block ?_ | refine reg (fun s => false) ?_ | (apply drwE mixed (fun s => false); (kernel_rfl)) | refine fin ?_ | refine Awp.ret ?_ | refine Awp.exit ?_ | ((first | (apply off; (exact rfl)) | apply condF); (first | (focus (simp only [go_sem, ↓reduceIte, simprocAttr] <;> rfl)) | exact rfl)))
    all_goals first | rfl | contradiction | (exfalso; omega) | skip
  | row hb hn h0 =>
    refine ACalls.of_body Try.func96 rfl (by kernel_rfl) (by rw [Try.ntmps96]; simp) ?_; rw [Try.ntmps96]
    repeat' (first | refine spD (fun _ => ?_) (fun _ => ?_) | refine spF (fun _ => ?_) (fun _ => ?_) | (apply gT; (exact rfl)) | (apply off; (exact rfl); (exact rfl)) | (apply condT; (exact rfl)) | (apply condF; (exact rfl)) | ((first | (apply stp0; (exact rfl); (exact rfl)) | (apply stpN0; (exact rfl)) | apply gT | apply condT); (first | (focus (simp only [go_sem, ↓reduceIte, simprocAttr] <;> rfl)) | exact rfl); (first | (fail_if_success (show okD _ _ _ _ _ _ _ _ _)) | (first | exact okT | exact okN | exact okE rfl))) | refine thenQ_n ?_ | refine thenQ_r ?_ | refine thenQ_e ?_ | refine blockQ_n ?_ | refine blockQ_r ?_ | refine blockQ_e ?_ | (apply blockQ_o; (exact rfl)) | refine Awp.seq ?_ | refine Awp.skip ?_ | refine Awp.block ?_ | refine reg (fun s => false) ?_ | (apply drwE mixed (fun s => false); (kernel_rfl)) | refine fin ?_ | refine Awp.ret ?_ | refine Awp.exit ?_ | ((first | (apply off; (exact rfl)) | apply condF); (first | (focus (simp only [go_sem, ↓reduceIte, simprocAttr] <;> rfl)) | exact rfl)))
    all_goals first | rfl | contradiction | (exfalso; omega) | skip
    exact bodyQ_mk (.inr rfl) (by rw [Try.results96]; simp only [go_sem, ↓reduceIte, simprocAttr]; rfl) (Vs.refl _ _ _) ⟨rfl, rfl⟩

set_option maxRecDepth 8000 in
set_option maxHeartbeats 4000000 in
theorem backLoop {o n : Nat} {v : List Int} (b : Nat) (I : Nat → Hp → Prop) (Stop : Hp → Prop) (hO : ∀ j H, I j H → H[o]? = some (.cells (ints v) 2)) (hn : n ≤ v.length) (hm : n ≤ maxLen)
    (hy : ∀ (j : Nat) (p : Int) (H : Hp), v[j]? = some p → j < n → I (j + 1) H → AYield Try.prog b [iv j, iv p] H (fun v1 H1 => (v1 = bv true ∧ I j H1) ∨ (v1 = bv false ∧ Stop H1))) (H : Hp) (h0 : I n H) :
    ACalls Try.prog 115 [.fn (.yield b) [], .rptr [.msl o 0 n] 0] H fun _ H' => I 0 H' ∨ Stop H' := by
  have hvl := ints_len v
  have wn : IntKind.i64.wrap ((n : Int) - 1) = (n : Int) - 1 := w64 (by omega) (by simp only [maxLen] at hm; omega)
  refine ACalls.of_body Try.func115 rfl (by kernel_rfl) (by rw [Try.ntmps115]; simp) ?_; rw [Try.ntmps115]
  repeat' (first | refine spD (fun _ => ?_) (fun _ => ?_) | refine spF (fun _ => ?_) (fun _ => ?_) | (apply gT; (exact rfl)) | (apply off; (exact rfl); (exact rfl)) | (apply condT; (exact rfl)) | (apply condF; (exact rfl)) | ((first | (apply stp0; (exact rfl); (exact rfl)) | (apply stpN0; (exact rfl)) | apply gT | apply condT | ((first | apply bodyQ_d0 | apply bodyQ_d1 | apply bodyQ_d2 | apply bodyQ_d3 | apply bodyQ_d4); (exact .inr rfl); (rw [Try.results115]))); (first | (focus (simp only [go_sem, ↓reduceIte, simprocAttr, wn] <;> rfl)) | exact rfl); (first | (fail_if_success (show okD _ _ _ _ _ _ _ _ _)) | (first | exact okT | exact okN | exact okE rfl)); (first | (fail_if_success (show Bel _ _)) | (focus first | exact .val _ | (simp [oneOf, Bel_iff_tup, Bel_iff_agg, Bel_iff_rsl, Bel_iff_fn, Bel_iff_rptr, Bel_val]; done)))) | refine thenQ_n ?_ | refine thenQ_r ?_ | refine thenQ_e ?_ | refine blockQ_n ?_ | refine blockQ_r ?_ | refine blockQ_e ?_ | (apply blockQ_o; (exact rfl)) | refine Awp.seq ?_ | refine Awp.skip ?_ | refine Awp.block ?_ | refine reg (fun s => false) ?_ | (apply drwE mixed (fun s => false); (kernel_rfl)) | refine fin ?_ | refine Awp.ret ?_ | refine Awp.exit ?_ | ((first | (apply off; (exact rfl)) | apply condF); (first | (focus (simp only [go_sem, ↓reduceIte, simprocAttr, wn] <;> rfl)) | exact rfl)))
  all_goals first | contradiction | (exfalso; omega) | skip
  refine Awp.loop (ι := Nat) (fun m T' H' => m ≤ n ∧ T' 0 = .fn (.yield b) [] ∧ T' 1 = .rptr [.msl o 0 n] 0 ∧ T' 3 = iv ((m : Int) - 1) ∧ I m H') (fun m => m) n ?_ ?_
  · refine ⟨Nat.le_refl _, ?_, ?_, ?_, h0⟩
    · rfl
    · rfl
    · (first | (focus (simp only [go_sem, ↓reduceIte, simprocAttr]; first | done | rfl)) | rfl)
  rintro m T H' ⟨hmn, t0, t1, t3, hI⟩
  cases m with
  | zero =>
    have hc : ¬ (((0 : Nat) : Int) - 1) ≥ 0 := by omega
    repeat' (first | refine spD (fun _ => ?_) (fun _ => ?_) | refine spF (fun _ => ?_) (fun _ => ?_) | (apply gT; (exact rfl)) | (apply off; (exact rfl); (exact rfl)) | (apply condT; (exact rfl)) | (apply condF; (exact rfl)) | ((first | (apply stp0; (exact rfl); (exact rfl)) | (apply stpN0; (exact rfl)) | apply gT | apply condT | ((first | apply bodyQ_d0 | apply bodyQ_d1 | apply bodyQ_d2 | apply bodyQ_d3 | apply bodyQ_d4); (exact .inr rfl); (rw [Try.results115]))); (first | (focus (simp only [go_sem, ↓reduceIte, simprocAttr, t0, t1, t3, hc] <;> rfl)) | exact rfl); (first | (fail_if_success (show okD _ _ _ _ _ _ _ _ _)) | (first | exact okT | exact okN | exact okE rfl)); (first | (fail_if_success (show Bel _ _)) | (focus first | exact .val _ | (simp [oneOf, Bel_iff_tup, Bel_iff_agg, Bel_iff_rsl, Bel_iff_fn, Bel_iff_rptr, Bel_val]; done)))) | refine thenQ_n ?_ | refine thenQ_r ?_ | refine thenQ_e ?_ | refine blockQ_n ?_ | refine blockQ_r ?_ | refine blockQ_e ?_ | (apply blockQ_o; (exact rfl)) | refine Awp.seq ?_ | refine Awp.skip ?_ | refine Awp.block ?_ | refine reg (fun s => false) ?_ | (apply drwE mixed (fun s => false); (kernel_rfl)) | refine fin ?_ | refine Awp.ret ?_ | refine Awp.exit ?_ | ((first | (apply off; (exact rfl)) | apply condF); (first | (focus (simp only [go_sem, ↓reduceIte, simprocAttr, t0, t1, t3, hc] <;> rfl)) | exact rfl)))
    all_goals first | contradiction | (exfalso; omega) | skip
    exact bodyQ_eq (.inl rfl) (by rw [Try.results115]; simp only [go_sem, ↓reduceIte, simprocAttr]; rfl) (.inl hI)
  | succ j =>
    have e : (((j + 1 : Nat) : Int) - 1) = (j : Int) := by omega
    rw [e] at t3
    have hc : (j : Int) ≥ 0 := by omega
    obtain ⟨p, hp⟩ := nth (l := v) (i := j) (by omega)
    have hpc : (ints v)[j]? = some [iv p] := nthMap (fun x => [iv x]) hp
    have hjn : j < n := by omega
    have hb := hO _ _ hI
    have hcall := hy j p H' hp hjn hI
    repeat' (first | refine spD (fun _ => ?_) (fun _ => ?_) | refine spF (fun _ => ?_) (fun _ => ?_) | (apply gT; (exact rfl)) | (apply off; (exact rfl); (exact rfl)) | (apply condT; (exact rfl)) | (apply condF; (exact rfl)) | ((first | (apply stp0; (exact rfl); (exact rfl)) | (apply stpN0; (exact rfl)) | apply gT | apply condT | ((first | apply bodyQ_d0 | apply bodyQ_d1 | apply bodyQ_d2 | apply bodyQ_d3 | apply bodyQ_d4); (exact .inr rfl); (rw [Try.results115]))); (first | (focus (simp only [go_sem, ↓reduceIte, simprocAttr, t0, t1, t3, hc, hb, hvl, hpc, hjn, Nat.zero_add] <;> rfl)) | exact rfl); (first | (fail_if_success (show okD _ _ _ _ _ _ _ _ _)) | (first | exact okT | exact okN | exact okE rfl)); (first | (fail_if_success (show Bel _ _)) | (focus first | exact .val _ | (simp [oneOf, Bel_iff_tup, Bel_iff_agg, Bel_iff_rsl, Bel_iff_fn, Bel_iff_rptr, Bel_val]; done)))) | refine thenQ_n ?_ | refine thenQ_r ?_ | refine thenQ_e ?_ | refine blockQ_n ?_ | refine blockQ_r ?_ | refine blockQ_e ?_ | (apply blockQ_o; (exact rfl)) | refine Awp.seq ?_ | refine Awp.skip ?_ | refine Awp.block ?_ | refine reg (fun s => false) ?_ | (apply drwE mixed (fun s => false); (kernel_rfl)) | refine fin ?_ | refine Awp.ret ?_ | refine Awp.exit ?_ | ((first | (apply off; (exact rfl)) | apply condF); (first | (focus (simp only [go_sem, ↓reduceIte, simprocAttr, t0, t1, t3, hc, hb, hvl, hpc, hjn, Nat.zero_add] <;> rfl)) | exact rfl)))
    all_goals first | contradiction | (exfalso; omega) | skip
    refine cal rfl rfl ?_ ?_ (show ACallV Try.prog (.fn (.yield b) []) [iv j, iv p] H' _ from hcall) ?_
    · (first | (focus (simp only [go_sem, ↓reduceIte, simprocAttr, t0]; first | done | rfl)) | rfl)
    · (first | (focus (simp only [go_sem, ↓reduceIte, simprocAttr, t3]; first | done | rfl)) | rfl)
    rintro v1 H2 (⟨rfl, hI2⟩ | ⟨rfl, hstop⟩)
    · have w1 : IntKind.i64.wrap ((j : Int) - 1) = (j : Int) - 1 := w64 (by omega) (by simp only [maxLen] at hm; omega)
      repeat' (first | refine spD (fun _ => ?_) (fun _ => ?_) | refine spF (fun _ => ?_) (fun _ => ?_) | (apply gT; (exact rfl)) | (apply off; (exact rfl); (exact rfl)) | (apply condT; (exact rfl)) | (apply condF; (exact rfl)) | ((first | (apply stp0; (exact rfl); (exact rfl)) | (apply stpN0; (exact rfl)) | apply gT | apply condT | ((first | apply bodyQ_d0 | apply bodyQ_d1 | apply bodyQ_d2 | apply bodyQ_d3 | apply bodyQ_d4); (exact .inr rfl); (rw [Try.results115]))); (first | (focus (simp only [go_sem, ↓reduceIte, simprocAttr, t0, t1, t3, w1] <;> rfl)) | exact rfl); (first | (fail_if_success (show okD _ _ _ _ _ _ _ _ _)) | (first | exact okT | exact okN | exact okE rfl)); (first | (fail_if_success (show Bel _ _)) | (focus first | exact .val _ | (simp [oneOf, Bel_iff_tup, Bel_iff_agg, Bel_iff_rsl, Bel_iff_fn, Bel_iff_rptr, Bel_val]; done)))) | refine thenQ_n ?_ | refine thenQ_r ?_ | refine thenQ_e ?_ | refine blockQ_n ?_ | refine blockQ_r ?_ | refine blockQ_e ?_ | (apply blockQ_o; (exact rfl)) | refine Awp.seq ?_ | refine Awp.skip ?_ | refine Awp.block ?_ | refine reg (fun s => false) ?_ | (apply drwE mixed (fun s => false); (kernel_rfl)) | refine fin ?_ | refine Awp.ret ?_ | refine Awp.exit ?_ | ((first | (apply off; (exact rfl)) | apply condF); (first | (focus (simp only [go_sem, ↓reduceIte, simprocAttr, t0, t1, t3, w1] <;> rfl)) | exact rfl)))
      all_goals first | contradiction | (exfalso; omega) | skip
      refine ⟨j, ⟨by omega, ?_, ?_, ?_, hI2⟩, by omega⟩
      · (first | (focus (simp only [go_sem, ↓reduceIte, simprocAttr, t0]; first | done | rfl)) | rfl)
      · (first | (focus (simp only [go_sem, ↓reduceIte, simprocAttr, t1]; first | done | rfl)) | rfl)
      · (first | (focus (simp only [go_sem, ↓reduceIte, simprocAttr, w1]; first | done | rfl)) | rfl)
    · repeat' (first | refine spD (fun _ => ?_) (fun _ => ?_) | refine spF (fun _ => ?_) (fun _ => ?_) | (apply gT; (exact rfl)) | (apply off; (exact rfl); (exact rfl)) | (apply condT; (exact rfl)) | (apply condF; (exact rfl)) | ((first | (apply stp0; (exact rfl); (exact rfl)) | (apply stpN0; (exact rfl)) | apply gT | apply condT | ((first | apply bodyQ_d0 | apply bodyQ_d1 | apply bodyQ_d2 | apply bodyQ_d3 | apply bodyQ_d4); (exact .inr rfl); (rw [Try.results115]))); (first | (focus (simp only [go_sem, ↓reduceIte, simprocAttr, t0, t1, t3] <;> rfl)) | exact rfl); (first | (fail_if_success (show okD _ _ _ _ _ _ _ _ _)) | (first | exact okT | exact okN | exact okE rfl)); (first | (fail_if_success (show Bel _ _)) | (focus first | exact .val _ | (simp [oneOf, Bel_iff_tup, Bel_iff_agg, Bel_iff_rsl, Bel_iff_fn, Bel_iff_rptr, Bel_val]; done)))) | refine thenQ_n ?_ | refine thenQ_r ?_ | refine thenQ_e ?_ | refine blockQ_n ?_ | refine blockQ_r ?_ | refine blockQ_e ?_ | (apply blockQ_o; (exact rfl)) | refine Awp.seq ?_ | refine Awp.skip ?_ | refine Awp.block ?_ | refine reg (fun s => false) ?_ | (apply drwE mixed (fun s => false); (kernel_rfl)) | refine fin ?_ | refine Awp.ret ?_ | refine Awp.exit ?_ | ((first | (apply off; (exact rfl)) | apply condF); (first | (focus (simp only [go_sem, ↓reduceIte, simprocAttr, t0, t1, t3] <;> rfl)) | exact rfl)))
      all_goals first | contradiction | (exfalso; omega) | skip
      exact bodyQ_eq (.inr rfl) (by rw [Try.results115]; simp only [go_sem, ↓reduceIte, simprocAttr]; rfl) (.inr hstop)

set_option maxRecDepth 8000 in
theorem backNil (b : Nat) (H : Hp) : ACalls Try.prog 115 [.fn (.yield b) [], .rptr [nilS] 0] H fun _ H' => H' = H := by
  have wn : IntKind.i64.wrap ((0 : Int) - 1) = -1 := by kernel_rfl
  refine ACalls.of_body Try.func115 rfl (by kernel_rfl) (by rw [Try.ntmps115]; simp) ?_; rw [Try.ntmps115]
  repeat' (first | refine spD (fun _ => ?_) (fun _ => ?_) | refine spF (fun _ => ?_) (fun _ => ?_) | (apply gT; (exact rfl)) | (apply off; (exact rfl); (exact rfl)) | (apply condT; (exact rfl)) | (apply condF; (exact rfl)) | ((first | (apply stp0; (exact rfl); (exact rfl)) | (apply stpN0; (exact rfl)) | apply gT | apply condT | ((first | apply bodyQ_d0 | apply bodyQ_d1 | apply bodyQ_d2 | apply bodyQ_d3 | apply bodyQ_d4); (exact .inr rfl); (rw [Try.results115]))); (first | (focus (simp only [go_sem, ↓reduceIte, simprocAttr, wn] <;> rfl)) | exact rfl); (first | (fail_if_success (show okD _ _ _ _ _ _ _ _ _)) | (first | exact okT | exact okN | exact okE rfl)); (first | (fail_if_success (show Bel _ _)) | (focus first | exact .val _ | (simp [oneOf, Bel_iff_tup, Bel_iff_agg, Bel_iff_rsl, Bel_iff_fn, Bel_iff_rptr, Bel_val]; done)))) | refine thenQ_n ?_ | refine thenQ_r ?_ | refine thenQ_e ?_ | refine blockQ_n ?_ | refine blockQ_r ?_ | refine blockQ_e ?_ | (apply blockQ_o; (exact rfl)) | refine Awp.seq ?_ | refine Awp.skip ?_ | refine Awp.block ?_ | refine reg (fun s => false) ?_ | (apply drwE mixed (fun s => false); (kernel_rfl)) | refine fin ?_ | refine Awp.ret ?_ | refine Awp.exit ?_ | ((first | (apply off; (exact rfl)) | apply condF); (first | (focus (simp only [go_sem, ↓reduceIte, simprocAttr, wn] <;> rfl)) | exact rfl)))
  all_goals first | contradiction | (exfalso; omega) | skip
  refine Awp.loop (ι := Nat) (fun m T' H' => T' 3 = iv (-1) ∧ H' = H) (fun m => m) 0 ?_ ?_
  · refine ⟨?_, rfl⟩
    (first | (focus (simp only [go_sem, ↓reduceIte, simprocAttr]; first | done | rfl)) | rfl)
  rintro m T H' ⟨t3, hH⟩
  have hc : ¬ (-1 : Int) ≥ 0 := by omega
  repeat' (first | refine spD (fun _ => ?_) (fun _ => ?_) | refine spF (fun _ => ?_) (fun _ => ?_) | (apply gT; (exact rfl)) | (apply off; (exact rfl); (exact rfl)) | (apply condT; (exact rfl)) | (apply condF; (exact rfl)) | ((first | (apply stp0; (exact rfl); (exact rfl)) | (apply stpN0; (exact rfl)) | apply gT | apply condT | ((first | apply bodyQ_d0 | apply bodyQ_d1 | apply bodyQ_d2 | apply bodyQ_d3 | apply bodyQ_d4); (exact .inr rfl); (rw [Try.results115]))); (first | (focus (simp only [go_sem, ↓reduceIte, simprocAttr, t3, hc] <;> rfl)) | exact rfl); (first | (fail_if_success (show okD _ _ _ _ _ _ _ _ _)) | (first | exact okT | exact okN | exact okE rfl)); (first | (fail_if_success (show Bel _ _)) | (focus first | exact .val _ | (simp [oneOf, Bel_iff_tup, Bel_iff_agg, Bel_iff_rsl, Bel_iff_fn, Bel_iff_rptr, Bel_val]; done)))) | refine thenQ_n ?_ | refine thenQ_r ?_ | refine thenQ_e ?_ | refine blockQ_n ?_ | refine blockQ_r ?_ | refine blockQ_e ?_ | (apply blockQ_o; (exact rfl)) | refine Awp.seq ?_ | refine Awp.skip ?_ | refine Awp.block ?_ | refine reg (fun s => false) ?_ | (apply drwE mixed (fun s => false); (kernel_rfl)) | refine fin ?_ | refine Awp.ret ?_ | refine Awp.exit ?_ | ((first | (apply off; (exact rfl)) | apply condF); (first | (focus (simp only [go_sem, ↓reduceIte, simprocAttr, t3, hc] <;> rfl)) | exact rfl)))
  all_goals first | contradiction | (exfalso; omega) | skip
  exact bodyQ_eq (.inl rfl) (by rw [Try.results115]; simp only [go_sem, ↓reduceIte, simprocAttr]; rfl) hH

set_option maxRecDepth 8000 in
theorem backEmp (b : Nat) (H : Hp) : ACalls Try.prog 115 [.fn (.yield b) [], .rptr [.rsl [] true] 0] H fun _ H' => H' = H := by
  have wn : IntKind.i64.wrap ((0 : Int) - 1) = -1 := by kernel_rfl
  refine ACalls.of_body Try.func115 rfl (by kernel_rfl) (by rw [Try.ntmps115]; simp) ?_; rw [Try.ntmps115]
  repeat' (first | refine spD (fun _ => ?_) (fun _ => ?_) | refine spF (fun _ => ?_) (fun _ => ?_) | (apply gT; (exact rfl)) | (apply off; (exact rfl); (exact rfl)) | (apply condT; (exact rfl)) | (apply condF; (exact rfl)) | ((first | (apply stp0; (exact rfl); (exact rfl)) | (apply stpN0; (exact rfl)) | apply gT | apply condT | ((first | apply bodyQ_d0 | apply bodyQ_d1 | apply bodyQ_d2 | apply bodyQ_d3 | apply bodyQ_d4); (exact .inr rfl); (rw [Try.results115]))); (first | (focus (simp only [go_sem, ↓reduceIte, simprocAttr, wn] <;> rfl)) | exact rfl); (first | (fail_if_success (show okD _ _ _ _ _ _ _ _ _)) | (first | exact okT | exact okN | exact okE rfl)); (first | (fail_if_success (show Bel _ _)) | (focus first | exact .val _ | (simp [oneOf, Bel_iff_tup, Bel_iff_agg, Bel_iff_rsl, Bel_iff_fn, Bel_iff_rptr, Bel_val]; done)))) | refine thenQ_n ?_ | refine thenQ_r ?_ | refine thenQ_e ?_ | refine blockQ_n ?_ | refine blockQ_r ?_ | refine blockQ_e ?_ | (apply blockQ_o; (exact rfl)) | refine Awp.seq ?_ | refine Awp.skip ?_ | refine Awp.block ?_ | refine reg (fun s => false) ?_ | (apply drwE mixed (fun s => false); (kernel_rfl)) | refine fin ?_ | refine Awp.ret ?_ | refine Awp.exit ?_ | ((first | (apply off; (exact rfl)) | apply condF); (first | (focus (simp only [go_sem, ↓reduceIte, simprocAttr, wn] <;> rfl)) | exact rfl)))
  all_goals first | contradiction | (exfalso; omega) | skip
  refine Awp.loop (ι := Nat) (fun m T' H' => T' 3 = iv (-1) ∧ H' = H) (fun m => m) 0 ?_ ?_
  · refine ⟨?_, rfl⟩
    (first | (focus (simp only [go_sem, ↓reduceIte, simprocAttr]; first | done | rfl)) | rfl)
  rintro m T H' ⟨t3, hH⟩
  have hc : ¬ (-1 : Int) ≥ 0 := by omega
  repeat' (first | refine spD (fun _ => ?_) (fun _ => ?_) | refine spF (fun _ => ?_) (fun _ => ?_) | (apply gT; (exact rfl)) | (apply off; (exact rfl); (exact rfl)) | (apply condT; (exact rfl)) | (apply condF; (exact rfl)) | ((first | (apply stp0; (exact rfl); (exact rfl)) | (apply stpN0; (exact rfl)) | apply gT | apply condT | ((first | apply bodyQ_d0 | apply bodyQ_d1 | apply bodyQ_d2 | apply bodyQ_d3 | apply bodyQ_d4); (exact .inr rfl); (rw [Try.results115]))); (first | (focus (simp only [go_sem, ↓reduceIte, simprocAttr, t3, hc] <;> rfl)) | exact rfl); (first | (fail_if_success (show okD _ _ _ _ _ _ _ _ _)) | (first | exact okT | exact okN | exact okE rfl)); (first | (fail_if_success (show Bel _ _)) | (focus first | exact .val _ | (simp [oneOf, Bel_iff_tup, Bel_iff_agg, Bel_iff_rsl, Bel_iff_fn, Bel_iff_rptr, Bel_val]; done)))) | refine thenQ_n ?_ | refine thenQ_r ?_ | refine thenQ_e ?_ | refine blockQ_n ?_ | refine blockQ_r ?_ | refine blockQ_e ?_ | (apply blockQ_o; (exact rfl)) | refine Awp.seq ?_ | refine Awp.skip ?_ | refine Awp.block ?_ | refine reg (fun s => false) ?_ | (apply drwE mixed (fun s => false); (kernel_rfl)) | refine fin ?_ | refine Awp.ret ?_ | refine Awp.exit ?_ | ((first | (apply off; (exact rfl)) | apply condF); (first | (focus (simp only [go_sem, ↓reduceIte, simprocAttr, t3, hc] <;> rfl)) | exact rfl)))
  all_goals first | contradiction | (exfalso; omega) | skip
  exact bodyQ_eq (.inl rfl) (by rw [Try.results115]; simp only [go_sem, ↓reduceIte, simprocAttr]; rfl) hH

/-- for i, x := range slices.Backward(row) -/
theorem overBack {n : Nat} {T : Env} {Q : Exit → Env → Hp → Prop} {gop : Operand} {x y : Nat} {assign body : Code} {A : Hp} {a : AV} {ids : List Int} (hOA : OrdAt A a ids) (hm : ids.length ≤ maxLen)
    (hT : evA T gop = .fn (.func 115) [.rptr [a] 0]) (hx : x < n) (hy : y < n) (I : Nat → Hp → Prop) (Rq : Hp → Prop) (hO : ∀ o m v j H, a = .msl o 0 m → I j H → H[o]? = some (.cells (ints v) 2) ∨ A[o]? ≠ some (.cells (ints v) 2))
    (h0 : ∀ ob, I ids.length (A ++ [ob]))
    (hb : ∀ (lp : LoopState → AObj) (j : Nat) (p : Int) (H1 : Hp), ids[j]? = some p → I (j + 1) H1 → H1[A.length]? = some (lp .ready) →
      Awp Try.prog n (some A.length) assign (upd (upd T x (iv j)) y (iv p)) H1 (fun e T1 H1' => e = .normal ∧ H1' = H1 ∧ Awp Try.prog n (some A.length) body T1 (H1.set A.length (lp .busy)) (fun e T2 H2 => H2[A.length]? = some (lp .busy) ∧
        match e with | .normal => I j (H2.set A.length (lp .ready)) | .ret => Rq (H2.set A.length .dead) | _ => False)))
    (hn : ∀ H1 ob, I 0 H1 → H1[A.length]? = some ob → Q .normal T (H1.set A.length .dead))
    (hr : ∀ H1, Rq H1 → Q .ret T H1) :
    Awp Try.prog n none (.rangeFunc gop #[x, y] assign body) T A Q := by
  refine Awp.range (k := 115) (cap := [.rptr [a] 0]) hT fun fid D => ?_
  have fin : ∀ H', ((I 0 H' ∧ H'[A.length]? = some (.loop .ready none fid T n #[x, y] assign body D)) ∨ (H'[A.length]? = some (.loop .done (some .ret) fid T n #[x, y] assign body D) ∧ Rq (H'.set A.length .dead))) → rangeQ Try.prog n none T A.length Q (.val undef) H' := by
    rintro H' (⟨h1, h2⟩ | ⟨h1, h2⟩)
    · exact ⟨.ready, none, fid, T, n, _, _, _, D, h2, by simp, hn H' _ h1 h2⟩
    · exact ⟨.done, some .ret, fid, T, n, _, _, _, D, h1, by simp, Awp.ret (hr _ h2)⟩
  cases hOA with
  | nil =>
    refine ACalls.mono (backNil _ _) fun v1 H' hH => ?_
    subst hH
    exact fin _ (.inl ⟨h0 _, get_new _ _⟩)
  | emp =>
    refine ACalls.mono (backEmp _ _) fun v1 H' hH => ?_
    subst hH
    exact fin _ (.inl ⟨h0 _, get_new _ _⟩)
  | row hbk hnv hv0 =>
    rename_i o m v
    have hlen : (v.take m).length = m := by rw [List.length_take]; omega
    rw [hlen] at h0 hm
    refine ACalls.mono (backLoop (o := o) (n := m) (v := v) A.length (fun j H' => I j H' ∧ H'[A.length]? = some (.loop .ready none fid T n #[x, y] assign body D))
      (fun H' => H'[A.length]? = some (.loop .done (some .ret) fid T n #[x, y] assign body D) ∧ Rq (H'.set A.length .dead)) (fun j H' hI => ?_) hnv hm ?_ _ ⟨h0 _, get_new _ _⟩) fun v1 H' h => fin H' h
    · rcases hO o m v j H' rfl hI.1 with h | h
      · exact h
      · exact absurd hbk h
    · rintro j p H1 hp hj ⟨hI, hlp⟩
      have hp' : (v.take m)[j]? = some p := by rw [List.getElem?_take, if_pos hj]; exact hp
      exact yieldOf hlp rfl (by simp; exact ⟨hx, hy⟩) (I j) Rq (hb (fun st => .loop st none fid T n #[x, y] assign body D) j p H1 hp' hI hlp)

end Go.Proofs.Ytlhchnnfgppneaa.Ab
namespace Go.Proofs.Ytlhchnnfgppneaa.Ab
open Go Go.RowKit Go.Proofs
set_option linter.unusedSimpArgs false
set_option linter.unusedVariables false
attribute [local irreducible] Awp wpO thenQ blockQ bodyQ ACalls stepA

/-- a record in a buffer -/
structure Hd where
  r : Item
  sm : Bool
  sent : Int
def Hd.bytes (h : Hd) : Int := if h.sm then h.r.pk else h.r.size
def loose (h : Hd) : Bool := !h.sm && decide (h.r.pk < h.r.size)
structure Bf where
  cap : Int
  used : Int
  time : Int
  L : List Hd
def idsL (L : List Hd) : List Int := L.map fun h => h.r.id
def findH : List Hd → Int → Option Hd
  | [], _ => none
  | h :: l, x => if x = h.r.id then some h else findH l x
def recF (L : List Hd) (x : Int) : Option AV := (findH L x).map fun h => .agg h.r.cs
def smF (L : List Hd) (x : Int) : Option AV := (findH L x).bind fun h => if h.sm then some (iv 1) else none
def stF (L : List Hd) (x : Int) : Option AV := (findH L x).bind fun h => if h.sent = -1 then none else some (iv h.sent)

theorem findH_at : ∀ {L : List Hd} {j : Nat} {h : Hd}, (idsL L).Nodup → L[j]? = some h → findH L h.r.id = some h
  | x :: l, 0, h, _, hj => by simp at hj; subst hj; simp [findH]
  | x :: l, j + 1, h, hn, hj => by
    have hn' := List.nodup_cons.1 hn
    have hm : h ∈ l := List.mem_of_getElem? (by simpa using hj)
    have hne : h.r.id ≠ x.r.id := fun e => hn'.1 (by show x.r.id ∈ List.map (fun h => h.r.id) l; rw [← e]; exact List.mem_map.2 ⟨h, hm, rfl⟩)
    unfold findH
    rw [if_neg hne]
    exact findH_at hn'.2 (by simpa using hj)
theorem findH_none {x : Int} : ∀ {L : List Hd}, findH L x = none ↔ x ∉ idsL L := by
  intro L
  induction L with
  | nil => simp [findH, idsL]
  | cons h l ih =>
    unfold findH
    split
    · rename_i e; simp [idsL, e]
    · rename_i e
      rw [ih]
      simp [idsL, e]
theorem findH_mem {x : Int} {h : Hd} : ∀ {L : List Hd}, findH L x = some h → h ∈ L ∧ h.r.id = x := by
  intro L
  induction L with
  | nil => intro e; cases e
  | cons y l ih =>
    intro e
    unfold findH at e
    split at e
    · rename_i k; cases e; exact ⟨by simp, k.symm⟩
    · obtain ⟨a, b⟩ := ih e; exact ⟨by simp [a], b⟩
theorem findH_set {h h' : Hd} (he : h'.r = h.r) (y : Int) : ∀ {L : List Hd} {j : Nat}, (idsL L).Nodup → L[j]? = some h → findH (L.set j h') y = if y = h.r.id then some h' else findH L y := by
  intro L
  induction L with
  | nil => intro j _ hj; simp at hj
  | cons x l ih =>
    intro j hn hj
    have hn' := List.nodup_cons.1 hn
    cases j with
    | zero =>
      simp at hj; subst hj
      show (if y = h'.r.id then some h' else findH l y) = _
      rw [he]
      show _ = if y = x.r.id then some h' else (if y = x.r.id then some x else findH l y)
      split <;> rfl
    | succ j =>
      have hm : h ∈ l := List.mem_of_getElem? (by simpa using hj)
      have hne : h.r.id ≠ x.r.id := fun e => hn'.1 (by show x.r.id ∈ List.map (fun h => h.r.id) l; rw [← e]; exact List.mem_map.2 ⟨h, hm, rfl⟩)
      have := ih hn'.2 (by simpa using hj)
      show (if y = x.r.id then some x else findH (l.set j h') y) = if y = h.r.id then some h' else (if y = x.r.id then some x else findH l y)
      rw [this]
      by_cases k : y = x.r.id
      · rw [if_pos k, if_pos k, if_neg (by rw [k]; exact Ne.symm hne)]
      · rw [if_neg k, if_neg k]
theorem idsL_set {L : List Hd} {j : Nat} {h h' : Hd} (hj : L[j]? = some h) (he : h'.r = h.r) : idsL (L.set j h') = idsL L := by
  unfold idsL
  rw [List.map_set]
  refine List.ext_getElem? fun i => ?_
  rw [List.getElem?_set]
  split
  · rename_i e; subst e
    rw [List.length_map, if_pos (List.getElem?_eq_some_iff.1 hj).1, List.getElem?_map, hj, Option.map_some, he]
  · rfl

/-- the least important record that is loose, of the first n -/
def lastL (L : List Hd) : Nat → Option Nat
  | 0 => none
  | j + 1 => match L[j]? with
    | some h => if loose h then some j else lastL L j
    | none => lastL L j
theorem lastL_none {L : List Hd} : ∀ {n : Nat}, (∀ i h, i < n → L[i]? = some h → loose h = false) → lastL L n = none
  | 0, _ => rfl
  | j + 1, k => by
    unfold lastL
    split
    · rename_i h e
      rw [k j h (by omega) e]
      exact lastL_none fun i h hi => k i h (by omega)
    · exact lastL_none fun i h hi => k i h (by omega)
theorem lastL_at {L : List Hd} {j : Nat} {h : Hd} (hj : L[j]? = some h) (hl : loose h = true) : ∀ {n : Nat}, j < n → (∀ i x, j < i → i < n → L[i]? = some x → loose x = false) → lastL L n = some j
  | n + 1, hjn, k => by
    unfold lastL
    by_cases e : j = n
    · subst e; rw [hj]; simp [hl]
    · split
      · rename_i x ex
        rw [k n x (by omega) (by omega) ex]
        exact lastL_at hj hl (by omega) fun i x h1 h2 => k i x h1 (by omega)
      · exact lastL_at hj hl (by omega) fun i x h1 h2 => k i x h1 (by omega)
theorem lastL_spec {L : List Hd} : ∀ {n j : Nat}, lastL L n = some j → j < n ∧ (∃ h, L[j]? = some h ∧ loose h = true) ∧ ∀ i x, j < i → i < n → L[i]? = some x → loose x = false
  | 0, j, h => by cases h
  | n + 1, j, h => by
    unfold lastL at h
    split at h
    · rename_i x ex
      split at h
      · rename_i hl; cases h
        exact ⟨by omega, ⟨x, ex, hl⟩, fun i y h1 h2 => by omega⟩
      · rename_i hl
        obtain ⟨a, b, c⟩ := lastL_spec h
        refine ⟨by omega, b, fun i y h1 h2 hy => ?_⟩
        by_cases e : i = n
        · subst e; rw [ex] at hy; cases hy; simpa using hl
        · exact c i y h1 (by omega) hy
    · rename_i ex
      obtain ⟨a, b, c⟩ := lastL_spec h
      refine ⟨by omega, b, fun i y h1 h2 hy => ?_⟩
      by_cases e : i = n
      · subst e; rw [ex] at hy; cases hy
      · exact c i y h1 (by omega) hy
theorem lastL_no {L : List Hd} : ∀ {n : Nat}, lastL L n = none → ∀ i x, i < n → L[i]? = some x → loose x = false
  | n + 1, h, i, x, hi, hx => by
    unfold lastL at h
    split at h
    · rename_i y ey
      split at h
      · cases h
      · rename_i hl
        by_cases e : i = n
        · subst e; rw [ey] at hx; cases hx; simpa using hl
        · exact lastL_no h i x (by omega) hx
    · rename_i ey
      by_cases e : i = n
      · subst e; rw [ey] at hx; cases hx
      · exact lastL_no h i x (by omega) hx

/-- how a buffer lies in memory -/
structure Rep (H : Hp) (F : Ft) (w : Rw) (S : Bf) : Prop where
  raw : RepW H F w
  cap : w.cap = S.cap
  used : w.used = S.used
  time : w.time = S.time
  ord : OrdAt H w.ord (idsL S.L)
  mr : MapIs w.kr (recF S.L)
  ms : MapIs w.ks (smF S.L)
  mt : MapIs w.kt (stF S.L)
theorem Rep.grow {H H' : Hp} {F : Ft} {w : Rw} {S : Bf} (h : Rep H F w S) (hG : Grow H H') : Rep H' F w S :=
  ⟨h.raw.grow hG, h.cap, h.used, h.time, h.ord.grow hG, h.mr, h.ms, h.mt⟩
theorem Grow.fr {F : Ft} {H H' : Hp} (h : Grow H H') : Fr F H H' := ⟨h.len, fun j hj _ _ _ _ => h.old j hj⟩
theorem MapIs.congr {ks : List (Int × AV)} {f f' : Int → Option AV} (h : MapIs ks f) (e : ∀ y, f' y = f y) : MapIs ks f' := ⟨h.nd, fun y => (h.get y).trans (e y).symm⟩
theorem OrdAt.hi {H D : Hp} {a : AV} {ids ids' : List Int} (hH : OrdAt H a ids) (hD : OrdAt D a ids') {s : Nat} (hs : H.length ≤ s) (c : AObj) : OrdAt (D.set s c) a ids' := hD.get fun o n v e hb => by
  obtain ⟨v0, h0, _⟩ := hH.blk e
  have := (List.getElem?_eq_some_iff.1 h0).1
  rw [List.getElem?_set_ne (by omega)]; exact hb
theorem RepW.lt {H : Hp} {F : Ft} {w : Rw} (h : RepW H F w) : F.b < H.length ∧ F.r < H.length ∧ F.s < H.length ∧ F.t < H.length :=
  ⟨(List.getElem?_eq_some_iff.1 h.hb).1, (List.getElem?_eq_some_iff.1 h.hr).1, (List.getElem?_eq_some_iff.1 h.hs).1, (List.getElem?_eq_some_iff.1 h.ht).1⟩
theorem Rep.hi {H D : Hp} {F : Ft} {w w' : Rw} {S S' : Bf} (hH : Rep H F w S) (hD : Rep D F w' S') (ho : w'.ord = w.ord) {s : Nat} (hs : H.length ≤ s) (c : AObj) : Rep (D.set s c) F w' S' := by
  obtain ⟨l1, l2, l3, l4⟩ := hH.raw.lt
  refine ⟨⟨?_, ?_, ?_, ?_, hD.raw.rs, hD.raw.rt, hD.raw.st⟩, hD.cap, hD.used, hD.time, ?_, hD.mr, hD.ms, hD.mt⟩
  · rw [List.getElem?_set_ne (by omega)]; exact hD.raw.hb
  · rw [List.getElem?_set_ne (by omega)]; exact hD.raw.hr
  · rw [List.getElem?_set_ne (by omega)]; exact hD.raw.hs
  · rw [List.getElem?_set_ne (by omega)]; exact hD.raw.ht
  · rw [ho]; exact OrdAt.hi hH.ord (ho ▸ hD.ord) hs c
theorem Fr.hi {F : Ft} {H D : Hp} (h : Fr F H D) {s : Nat} (hs : H.length ≤ s) (c : AObj) : Fr F H (D.set s c) :=
  ⟨by simpa using h.len, fun j hj a b d e => by rw [List.getElem?_set_ne (by omega)]; exact h.old j hj a b d e⟩
/-- what holds of every buffer -/
structure Good (S : Bf) : Prop where
  nd : (idsL S.L).Nodup
  ok : ∀ h ∈ S.L, h.r.ok
  sum : S.used = (S.L.map Hd.bytes).sum
  len : S.L.length ≤ 257
  cap : 1 ≤ S.cap ∧ S.cap ≤ 16777216
  srt : S.L.Pairwise fun x y => lessR y.r x.r
theorem Good.used {S : Bf} (h : Good S) : 0 ≤ S.used ∧ S.used ≤ 16777216 * S.L.length := by
  rw [h.sum]
  have key : ∀ L : List Hd, (∀ h ∈ L, h.r.ok) → 0 ≤ (L.map Hd.bytes).sum ∧ (L.map Hd.bytes).sum ≤ 16777216 * L.length := by
    intro L
    induction L with
    | nil => simp
    | cons x l ih =>
      intro h
      have h1 := ih fun y hy => h y (by simp [hy])
      have h2 := h x (by simp)
      simp only [Item.ok] at h2
      have e : ((x :: l).map Hd.bytes).sum = x.bytes + (l.map Hd.bytes).sum := by simp
      have e2 : (16777216 : Int) * ((x :: l).length : Nat) = 16777216 * l.length + 16777216 := by rw [List.length_cons, Int.natCast_succ, Int.mul_add, Int.mul_one]
      rw [e, e2]
      have hb : 1 ≤ x.bytes ∧ x.bytes ≤ 16777216 := by unfold Hd.bytes; split <;> omega
      omega
  exact key _ h.ok

/-- the buffer with its record j compressed -/
def Bf.press (S : Bf) (j : Nat) : Bf := match S.L[j]? with
  | some h => { S with used := S.used - (h.r.size - h.r.pk), L := S.L.set j { h with sm := true } }
  | none => S

set_option maxRecDepth 8000 in
set_option maxHeartbeats 4000000 in
theorem compress_ok {H : Hp} {F : Ft} {w : Rw} {S : Bf} (hR : Rep H F w S) (hg : Good S) :
    ACalls Try.prog 60 [.mptr F.b 0 0] H fun v1 H1 => (lastL S.L S.L.length = none ∧ v1 = bv false ∧ Grow H H1) ∨
      ∃ j w', lastL S.L S.L.length = some j ∧ v1 = bv true ∧ Rep H1 F w' (S.press j) ∧ Fr F H H1 ∧ w'.ord = w.ord := by
  have hb := hR.raw.hb
  simp only [Rw.cs] at hb
  have hil : (idsL S.L).length = S.L.length := by simp [idsL]
  have hlm : (idsL S.L).length ≤ maxLen := by have := hg.len; simp only [maxLen]; omega
  have hbb := held hb
  have hbk := backward_ok (H ++ [.cells [[bv false]] 4]) w.ord _ (hR.ord.grow ((Grow.refl _).app _))
  refine ACalls.of_body Try.func60 rfl (by kernel_rfl) (by rw [Try.ntmps60]; simp) ?_; rw [Try.ntmps60]
  repeat' (first | refine spD (fun _ => ?_) (fun _ => ?_) | refine spF (fun _ => ?_) (fun _ => ?_) | (apply gT; (exact rfl)) | (apply off; (exact rfl); (exact rfl)) | (apply condT; (exact rfl)) | (apply condF; (exact rfl)) | ((first | (apply stp0; (exact rfl); (exact rfl)) | (apply stpN0; (exact rfl)) | apply gT | apply condT | ((first | apply bodyQ_d0 | apply bodyQ_d1 | apply bodyQ_d2 | apply bodyQ_d3 | apply bodyQ_d4); (exact .inr rfl); (rw [Try.results60]))); (first | (focus (simp only [go_sem, ↓reduceIte, simprocAttr, hbb] <;> rfl)) | exact rfl); (first | (fail_if_success (show okD _ _ _ _ _ _ _ _ _)) | (first | exact okT | exact okN | exact okE rfl)); (first | (fail_if_success (show Bel _ _)) | (focus first | exact .val _ | (simp [oneOf, Bel_iff_tup, Bel_iff_agg, Bel_iff_rsl, Bel_iff_fn, Bel_iff_rptr, Bel_val]; done)))) | (apply calTo0; (exact rfl); (iterate 2 (simp only [go_sem, ↓reduceIte, simprocAttr, hbb]; rfl)); (first | exact hbk); (first | exact okT | exact okN | exact okE rfl)) | refine thenQ_n ?_ | refine thenQ_r ?_ | refine thenQ_e ?_ | refine blockQ_n ?_ | refine blockQ_r ?_ | refine blockQ_e ?_ | (apply blockQ_o; (exact rfl)) | refine Awp.seq ?_ | refine Awp.skip ?_ | refine Awp.block ?_ | refine reg (fun s => s == 2 || s == 5) ?_ | (apply drwE mixed (fun s => s == 2 || s == 5); (kernel_rfl)) | refine fin ?_ | refine Awp.ret ?_ | refine Awp.exit ?_ | ((first | (apply off; (exact rfl)) | apply condF); (first | (focus (simp only [go_sem, ↓reduceIte, simprocAttr, hbb] <;> rfl)) | exact rfl)))
  all_goals first | contradiction | (exfalso; omega) | skip
  have hG0 : Grow H (H ++ [AObj.cells [[bv false]] 4]) := (Grow.refl _).app _
  have hAl : (H ++ [AObj.cells [[bv false]] 4]).length = H.length + 1 := by simp
  obtain ⟨F1l, F2l⟩ : F.b < H.length ∧ F.s < H.length := ⟨(List.getElem?_eq_some_iff.1 hR.raw.hb).1, (List.getElem?_eq_some_iff.1 hR.raw.hs).1⟩
  generalize hA : H ++ [AObj.cells [[bv false]] 4] = A at *
  have hA0 : A[H.length]? = some (.cells [[bv false]] 4) := by rw [← hA]; exact get_new _ _
  clear hA hbk hbb
  refine Awp.withT (fun T' => T' 1 = .rptr [.mptr F.b 0 0] 0 ∧ T' 2 = .mptr H.length 0 0 ∧ T' 10 = .fn (.func 115) [.rptr [w.ord] 0]) ⟨?_, ?_, ?_⟩ ?_
  · (first | (focus (simp only [go_sem, ↓reduceIte, simprocAttr]; first | done | rfl)) | rfl)
  · (first | (focus (simp only [go_sem, ↓reduceIte, simprocAttr]; first | done | rfl)) | rfl)
  · (first | (focus (simp only [go_sem, ↓reduceIte, simprocAttr]; first | done | rfl)) | rfl)
  rintro T ⟨t1, t2, t10⟩
  refine overBack (a := w.ord) (ids := idsL S.L) (hR.ord.grow hG0) hlm t10 (by decide) (by decide) (fun m H' => Grow H H' ∧ H.length + 1 < H'.length ∧ H'[H.length]? = some (.cells [[bv false]] 4) ∧ ∀ i x, m ≤ i → S.L[i]? = some x → loose x = false)
    (fun H1 => ∃ j w', lastL S.L S.L.length = some j ∧ Rep H1 F w' (S.press j) ∧ Fr F H H1 ∧ w'.ord = w.ord ∧ H1[H.length]? = some (.cells [[bv true]] 4)) ?_ ?_ ?_ ?_ ?_
  · rintro o m v j H' he ⟨hG, _⟩
    obtain ⟨v0, h0, _⟩ := hR.ord.blk he
    rcases Classical.em (A[o]? = some (.cells (ints v) 2)) with h | h
    · left; rw [hG.get h0, ← hG0.get h0]; exact h
    · exact .inr h
  · intro ob
    refine ⟨hG0.app _, by simp [hAl], (held hA0).2.1 _, fun i x hi hx => ?_⟩
    rw [hil] at hi
    have := (List.getElem?_eq_some_iff.1 hx).1
    omega
  · rintro lp j p H1 hp ⟨hG, hl1, hc, hno⟩ hlp
    obtain ⟨h, hj, hid⟩ : ∃ h, S.L[j]? = some h ∧ h.r.id = p := by
      unfold idsL at hp
      rw [List.getElem?_map] at hp
      cases e : S.L[j]? with
      | none => rw [e] at hp; cases hp
      | some h => rw [e] at hp; cases hp; exact ⟨h, rfl, rfl⟩
    have hjl : j < S.L.length := (List.getElem?_eq_some_iff.1 hj).1
    have hfh := findH_at hg.nd hj
    have hrec : getM w.kr p = some (.agg h.r.cs) := by rw [hR.mr.get, ← hid]; unfold recF; rw [hfh]; rfl
    have hsm : (getM w.ks p).getD (iv 0) = iv (if h.sm then 1 else 0) := by rw [hR.ms.get, ← hid]; unfold smF; rw [hfh]; cases e : h.sm <;> simp [e]
    repeat' (first | refine spD (fun _ => ?_) (fun _ => ?_) | refine spF (fun _ => ?_) (fun _ => ?_) | (apply gT; (exact rfl)) | (apply off; (exact rfl); (exact rfl)) | (apply condT; (exact rfl)) | (apply condF; (exact rfl)) | ((first | (apply stp0; (exact rfl); (exact rfl)) | (apply stpN0; (exact rfl)) | apply gT | apply condT | ((first | apply bodyQ_d0 | apply bodyQ_d1 | apply bodyQ_d2 | apply bodyQ_d3 | apply bodyQ_d4); (exact .inr rfl); (rw [Try.results60]))); (first | (focus (simp only [go_sem, ↓reduceIte, simprocAttr, t1, t2, t10] <;> rfl)) | exact rfl); (first | (fail_if_success (show okD _ _ _ _ _ _ _ _ _)) | (first | exact okT | exact okN | exact okE rfl)); (first | (fail_if_success (show Bel _ _)) | (focus first | exact .val _ | (simp [oneOf, Bel_iff_tup, Bel_iff_agg, Bel_iff_rsl, Bel_iff_fn, Bel_iff_rptr, Bel_val]; done)))) | refine thenQ_n ?_ | refine thenQ_r ?_ | refine thenQ_e ?_ | refine blockQ_n ?_ | refine blockQ_r ?_ | refine blockQ_e ?_ | (apply blockQ_o; (exact rfl)) | refine Awp.seq ?_ | refine Awp.skip ?_ | refine Awp.block ?_ | refine reg (fun s => s == 2 || s == 5) ?_ | (apply drwE mixed (fun s => s == 2 || s == 5); (kernel_rfl)) | refine fin ?_ | refine Awp.ret ?_ | refine Awp.exit ?_ | ((first | (apply off; (exact rfl)) | apply condF); (first | (focus (simp only [go_sem, ↓reduceIte, simprocAttr, t1, t2, t10] <;> rfl)) | exact rfl)))
    refine ⟨rfl, rfl, ?_⟩
    have hgs : Grow H (H1.set A.length (lp .busy)) := hG.set (by omega) _
    have hbs := hgs.get hR.raw.hb
    simp only [Rw.cs] at hbs
    have hl : A.length = H.length + 1 := hAl
    rw [hl] at hlp hgs hbs ⊢
    have hc2 : (H1.set (H.length + 1) (lp .busy))[H.length]? = some (.cells [[bv false]] 4) := by rw [List.getElem?_set_ne (by omega)]; exact hc
    have hlb : (H1.set (H.length + 1) (lp .busy))[H.length + 1]? = some (lp .busy) := List.getElem?_set_self hl1
    generalize H1.set (H.length + 1) (lp .busy) = B at *
    have l1 := (mT40.look0 (hgs.get hR.raw.hr) p).2
    rw [hrec] at l1
    simp only [Option.getD_some, Item.cs] at l1
    have l2 : ∀ X, lookA Try.prog 106 (.mp F.s) (iv p) false (B ++ X) = some (iv (if h.sm then 1 else 0)) := fun X => by rw [(mT106.look0 ((hgs.app X).get hR.raw.hs) p).2, hsm]
    have hbs2 := held hbs
    repeat' ((fail_if_success (apply stopR (id := 4))); (fail_if_success (apply stopS (id := 4))); first | refine spD (fun _ => ?_) (fun _ => ?_) | refine spF (fun _ => ?_) (fun _ => ?_) | (apply gT; (exact rfl)) | (apply off; (exact rfl); (exact rfl)) | (apply condT; (exact rfl)) | (apply condF; (exact rfl)) | ((first | (apply stp0; (exact rfl); (exact rfl)) | (apply stpN0; (exact rfl)) | apply gT | apply condT | ((first | apply bodyQ_d0 | apply bodyQ_d1 | apply bodyQ_d2 | apply bodyQ_d3 | apply bodyQ_d4); (exact .inr rfl); (rw [Try.results60]))); (first | (focus (simp only [go_sem, ↓reduceIte, simprocAttr, t1, t2, t10, hbs, hbs2, l1, l2] <;> rfl)) | exact rfl); (first | (fail_if_success (show okD _ _ _ _ _ _ _ _ _)) | (first | exact okT | exact okN | exact okE rfl)); (first | (fail_if_success (show Bel _ _)) | (focus first | exact .val _ | (simp [oneOf, Bel_iff_tup, Bel_iff_agg, Bel_iff_rsl, Bel_iff_fn, Bel_iff_rptr, Bel_val]; done)))) | refine thenQ_n ?_ | refine thenQ_r ?_ | refine thenQ_e ?_ | refine blockQ_n ?_ | refine blockQ_r ?_ | refine blockQ_e ?_ | (apply blockQ_o; (exact rfl)) | refine Awp.seq ?_ | refine Awp.skip ?_ | refine Awp.block ?_ | refine reg (fun s => s == 2 || s == 5) ?_ | (apply drwE mixed (fun s => s == 2 || s == 5); (kernel_rfl)) | refine fin ?_ | refine Awp.ret ?_ | refine Awp.exit ?_ | ((first | (apply off; (exact rfl)) | apply condF); (first | (focus (simp only [go_sem, ↓reduceIte, simprocAttr, t1, t2, t10, hbs, hbs2, l1, l2] <;> rfl)) | exact rfl)))
    all_goals first | contradiction | (exfalso; omega) | skip
    refine Awp.withT (fun T' => T' 1 = .rptr [.mptr F.b 0 0] 0 ∧ T' 2 = .mptr H.length 0 0 ∧ T' 4 = iv p ∧ T' 5 = .mptr B.length 0 0) ⟨?_, ?_, ?_, ?_⟩ ?_
    · (first | (focus (simp only [go_sem, ↓reduceIte, simprocAttr, t1]; first | done | rfl)) | rfl)
    · (first | (focus (simp only [go_sem, ↓reduceIte, simprocAttr, t2]; first | done | rfl)) | rfl)
    · (first | (focus (simp only [go_sem, ↓reduceIte, simprocAttr]; first | done | rfl)) | rfl)
    · (first | (focus (simp only [go_sem, ↓reduceIte, simprocAttr]; first | done | rfl)) | rfl)
    clear t1 t2 t10 T hbs2 hbs l1
    rintro T ⟨t1, t2, t4, t5⟩
    have l3 := l2 [.cells [[iv h.r.id, iv h.r.cls, iv h.r.made, iv h.r.size, iv h.r.pk]] 23]
    have hgC := hgs.app [.cells [[iv h.r.id, iv h.r.cls, iv h.r.made, iv h.r.size, iv h.r.pk]] 23]
    have hcC := (held hc2).2.1 [.cells [[iv h.r.id, iv h.r.cls, iv h.r.made, iv h.r.size, iv h.r.pk]] 23]
    have hlC := (held hlb).2.1 [.cells [[iv h.r.id, iv h.r.cls, iv h.r.made, iv h.r.size, iv h.r.pk]] 23]
    have h5C := get_new B (.cells [[iv h.r.id, iv h.r.cls, iv h.r.made, iv h.r.size, iv h.r.pk]] 23)
    have hCl : (B ++ [AObj.cells [[iv h.r.id, iv h.r.cls, iv h.r.made, iv h.r.size, iv h.r.pk]] 23]).length = B.length + 1 := by simp
    have hBl := (List.getElem?_eq_some_iff.1 hlb).1
    generalize B ++ [AObj.cells [[iv h.r.id, iv h.r.cls, iv h.r.made, iv h.r.size, iv h.r.pk]] 23] = C at *
    have hRC := hR.raw.grow hgC
    have hbC := hRC.hb
    simp only [Rw.cs] at hbC
    cases hsm2 : h.sm with
    | true =>
      rw [hsm2, if_pos rfl] at l3
      have n1 : ¬ (1 : Int) = 0 := by omega
      repeat' (first | refine spD (fun _ => ?_) (fun _ => ?_) | refine spF (fun _ => ?_) (fun _ => ?_) | (apply gT; (exact rfl)) | (apply off; (exact rfl); (exact rfl)) | (apply condT; (exact rfl)) | (apply condF; (exact rfl)) | ((first | (apply stp0; (exact rfl); (exact rfl)) | (apply stpN0; (exact rfl)) | apply gT | apply condT | ((first | apply bodyQ_d0 | apply bodyQ_d1 | apply bodyQ_d2 | apply bodyQ_d3 | apply bodyQ_d4); (exact .inr rfl); (rw [Try.results60]))); (first | (focus (simp only [go_sem, ↓reduceIte, simprocAttr, t1, t2, t4, t5, hbC, l3, n1] <;> rfl)) | exact rfl); (first | (fail_if_success (show okD _ _ _ _ _ _ _ _ _)) | (first | exact okT | exact okN | exact okE rfl)); (first | (fail_if_success (show Bel _ _)) | (focus first | exact .val _ | (simp [oneOf, Bel_iff_tup, Bel_iff_agg, Bel_iff_rsl, Bel_iff_fn, Bel_iff_rptr, Bel_val]; done)))) | refine thenQ_n ?_ | refine thenQ_r ?_ | refine thenQ_e ?_ | refine blockQ_n ?_ | refine blockQ_r ?_ | refine blockQ_e ?_ | (apply blockQ_o; (exact rfl)) | refine Awp.seq ?_ | refine Awp.skip ?_ | refine Awp.block ?_ | refine reg (fun s => s == 2 || s == 5) ?_ | (apply drwE mixed (fun s => s == 2 || s == 5); (kernel_rfl)) | refine fin ?_ | refine Awp.ret ?_ | refine Awp.exit ?_ | ((first | (apply off; (exact rfl)) | apply condF); (first | (focus (simp only [go_sem, ↓reduceIte, simprocAttr, t1, t2, t4, t5, hbC, l3, n1] <;> rfl)) | exact rfl)))
      all_goals first | contradiction | (exfalso; omega) | skip
      refine ⟨hlC, hgC.set (by omega) _, by simp; omega, by rw [List.getElem?_set_ne (by omega)]; exact hcC, fun i x hi hx => ?_⟩
      by_cases e : i = j
      · subst e; rw [hj] at hx; cases hx; simp [loose, hsm2]
      · exact hno i x (by omega) hx
    | false =>
      rw [hsm2, if_neg (by simp)] at l3
      by_cases hp2 : h.r.pk < h.r.size
      · have hlo : loose h = true := by simp [loose, hsm2, hp2]
        have hla := lastL_at hj hlo hjl fun i x hi _ hx => hno i x (by omega) hx
        have hok := hg.ok h (List.mem_of_getElem? hj)
        simp only [Item.ok] at hok
        have hus := hg.used
        have hlen := hg.len
        have w1 : IntKind.i64.wrap (h.r.size - h.r.pk) = h.r.size - h.r.pk := w64 (by omega) (by omega)
        have w2 : IntKind.i64.wrap (w.used - (h.r.size - h.r.pk)) = w.used - (h.r.size - h.r.pk) := by rw [hR.used]; exact w64 (by omega) (by omega)
        have u1 := mT106.upd hRC.hs p (iv 1)
        obtain ⟨R1, F1⟩ := hRC.setS (setM p (iv 1) w.ks)
        obtain ⟨R2, F2⟩ := R1.setB (w.used - (h.r.size - h.r.pk)) w.time w.ord
        have b1 := R1.hb
        have b2 := R2.hb
        simp only [Rw.cs] at b1 b2
        have n5 : F.s ≠ B.length := by have := hgs.len; omega
        have n6 : F.b ≠ B.length := by have := hgs.len; omega
        have h5D := (heldO n5 h5C).1 (.amap (ents (setM p (iv 1) w.ks)))
        have hcD := (heldO (show F.b ≠ H.length by omega) ((heldO (show F.s ≠ H.length by omega) hcC).1 (.amap (ents (setM p (iv 1) w.ks))))).1 (.cells [[iv w.cap, iv (w.used - (h.r.size - h.r.pk)), iv w.time, w.ord, .mp F.r, .mp F.s, .mp F.t]] 109)
        have hlD := (heldO (show F.b ≠ H.length + 1 by omega) ((heldO (show F.s ≠ H.length + 1 by omega) hlC).1 (.amap (ents (setM p (iv 1) w.ks))))).1 (.cells [[iv w.cap, iv (w.used - (h.r.size - h.r.pk)), iv w.time, w.ord, .mp F.r, .mp F.s, .mp F.t]] 109)
        repeat' ((fail_if_success (apply stopR (id := 7))); (fail_if_success (apply stopS (id := 7))); first | refine spD (fun _ => ?_) (fun _ => ?_) | refine spF (fun _ => ?_) (fun _ => ?_) | (apply gT; (exact rfl)) | (apply off; (exact rfl); (exact rfl)) | (apply condT; (exact rfl)) | (apply condF; (exact rfl)) | ((first | (apply stp0; (exact rfl); (exact rfl)) | (apply stpN0; (exact rfl)) | apply gT | apply condT | ((first | apply bodyQ_d0 | apply bodyQ_d1 | apply bodyQ_d2 | apply bodyQ_d3 | apply bodyQ_d4); (exact .inr rfl); (rw [Try.results60]))); (first | (focus (simp only [go_sem, ↓reduceIte, simprocAttr, t1, t2, t4, t5, hbC, l3, hp2, h5C, u1, b1, h5D, w1, w2] <;> rfl)) | exact rfl); (first | (fail_if_success (show okD _ _ _ _ _ _ _ _ _)) | (first | exact okT | exact okN | exact okE rfl)); (first | (fail_if_success (show Bel _ _)) | (focus first | exact .val _ | (simp [oneOf, Bel_iff_tup, Bel_iff_agg, Bel_iff_rsl, Bel_iff_fn, Bel_iff_rptr, Bel_val]; done)))) | refine thenQ_n ?_ | refine thenQ_r ?_ | refine thenQ_e ?_ | refine blockQ_n ?_ | refine blockQ_r ?_ | refine blockQ_e ?_ | (apply blockQ_o; (exact rfl)) | refine Awp.seq ?_ | refine Awp.skip ?_ | refine Awp.block ?_ | refine reg (fun s => s == 2 || s == 5) ?_ | (apply drwE mixed (fun s => s == 2 || s == 5); (kernel_rfl)) | refine fin ?_ | refine Awp.ret ?_ | refine Awp.exit ?_ | ((first | (apply off; (exact rfl)) | apply condF); (first | (focus (simp only [go_sem, ↓reduceIte, simprocAttr, t1, t2, t4, t5, hbC, l3, hp2, h5C, u1, b1, h5D, w1, w2] <;> rfl)) | exact rfl)))
        all_goals first | contradiction | (exfalso; omega) | skip
        have hpr : S.press j = { S with used := S.used - (h.r.size - h.r.pk), L := S.L.set j { h with sm := true } } := by unfold Bf.press; rw [hj]
        have q1 : OrdAt ((C.set F.s (.amap (ents (setM p (iv 1) w.ks)))).set F.b (.cells [[iv w.cap, iv (w.used - (h.r.size - h.r.pk)), iv w.time, w.ord, .mp F.r, .mp F.s, .mp F.t]] 109)) w.ord (idsL (S.press j).L) := by
          rw [hpr]
          show OrdAt _ w.ord (idsL (S.L.set j { h with sm := true }))
          rw [idsL_set (h' := { h with sm := true }) hj rfl]
          exact ((hR.ord.grow hgC).set hRC.hs (fun v => amap_ne v) _).set R1.hb (fun v => b109_ne v) _
        have q2 : MapIs w.kr (recF (S.press j).L) := hR.mr.congr fun y => by
          rw [hpr]
          show recF (S.L.set j { h with sm := true }) y = recF S.L y
          unfold recF; rw [findH_set (h := h) (h' := { h with sm := true }) rfl y hg.nd hj]
          split
          · rename_i e; rw [e, hfh]; rfl
          · rfl
        have q3 : MapIs (setM p (iv 1) w.ks) (smF (S.press j).L) := hR.ms.set p (iv 1) fun y => by
          rw [hpr]
          show smF (S.L.set j { h with sm := true }) y = _
          unfold smF; rw [findH_set (h := h) (h' := { h with sm := true }) rfl y hg.nd hj, hid]
          split
          · rfl
          · rfl
        have q4 : MapIs w.kt (stF (S.press j).L) := hR.mt.congr fun y => by
          rw [hpr]
          show stF (S.L.set j { h with sm := true }) y = stF S.L y
          unfold stF; rw [findH_set (h := h) (h' := { h with sm := true }) rfl y hg.nd hj]
          split
          · rename_i e; rw [e, hfh]; rfl
          · rfl
        have hRD := Rep.mk (S := S.press j) R2 (by rw [hpr]; exact hR.cap) (by rw [hpr]; show w.used - _ = S.used - _; rw [hR.used]) (by rw [hpr]; exact hR.time) q1 q2 q3 q4
        have hFD := (hgC.fr (F := F)).trans (F1.trans F2)
        clear R1 R2 F1 F2 u1 b1 b2 h5D
        repeat' (first | refine spD (fun _ => ?_) (fun _ => ?_) | refine spF (fun _ => ?_) (fun _ => ?_) | (apply gT; (exact rfl)) | (apply off; (exact rfl); (exact rfl)) | (apply condT; (exact rfl)) | (apply condF; (exact rfl)) | ((first | (apply stp0; (exact rfl); (exact rfl)) | (apply stpN0; (exact rfl)) | apply gT | apply condT | ((first | apply bodyQ_d0 | apply bodyQ_d1 | apply bodyQ_d2 | apply bodyQ_d3 | apply bodyQ_d4); (exact .inr rfl); (rw [Try.results60]))); (first | (focus (simp only [go_sem, ↓reduceIte, simprocAttr, t1, t2, t4, t5, hcD] <;> rfl)) | exact rfl); (first | (fail_if_success (show okD _ _ _ _ _ _ _ _ _)) | (first | exact okT | exact okN | exact okE rfl)); (first | (fail_if_success (show Bel _ _)) | (focus first | exact .val _ | (simp [oneOf, Bel_iff_tup, Bel_iff_agg, Bel_iff_rsl, Bel_iff_fn, Bel_iff_rptr, Bel_val]; done)))) | refine thenQ_n ?_ | refine thenQ_r ?_ | refine thenQ_e ?_ | refine blockQ_n ?_ | refine blockQ_r ?_ | refine blockQ_e ?_ | (apply blockQ_o; (exact rfl)) | refine Awp.seq ?_ | refine Awp.skip ?_ | refine Awp.block ?_ | refine reg (fun s => s == 2 || s == 5) ?_ | (apply drwE mixed (fun s => s == 2 || s == 5); (kernel_rfl)) | refine fin ?_ | refine Awp.ret ?_ | refine Awp.exit ?_ | ((first | (apply off; (exact rfl)) | apply condF); (first | (focus (simp only [go_sem, ↓reduceIte, simprocAttr, t1, t2, t4, t5, hcD] <;> rfl)) | exact rfl)))
        all_goals first | contradiction | (exfalso; omega) | skip
        refine ⟨by rw [List.getElem?_set_ne (by omega)]; exact hlD, j, _, hla, hR.hi (hR.hi hRD rfl (Nat.le_refl _) _) rfl (by omega) _, (hFD.hi (Nat.le_refl _) _).hi (by omega) _, rfl, ?_⟩
        rw [List.getElem?_set_ne (by omega)]
        exact (heldS hcD).1 _
      · repeat' (first | refine spD (fun _ => ?_) (fun _ => ?_) | refine spF (fun _ => ?_) (fun _ => ?_) | (apply gT; (exact rfl)) | (apply off; (exact rfl); (exact rfl)) | (apply condT; (exact rfl)) | (apply condF; (exact rfl)) | ((first | (apply stp0; (exact rfl); (exact rfl)) | (apply stpN0; (exact rfl)) | apply gT | apply condT | ((first | apply bodyQ_d0 | apply bodyQ_d1 | apply bodyQ_d2 | apply bodyQ_d3 | apply bodyQ_d4); (exact .inr rfl); (rw [Try.results60]))); (first | (focus (simp only [go_sem, ↓reduceIte, simprocAttr, t1, t2, t4, t5, hbC, l3, hp2, h5C] <;> rfl)) | exact rfl); (first | (fail_if_success (show okD _ _ _ _ _ _ _ _ _)) | (first | exact okT | exact okN | exact okE rfl)); (first | (fail_if_success (show Bel _ _)) | (focus first | exact .val _ | (simp [oneOf, Bel_iff_tup, Bel_iff_agg, Bel_iff_rsl, Bel_iff_fn, Bel_iff_rptr, Bel_val]; done)))) | refine thenQ_n ?_ | refine thenQ_r ?_ | refine thenQ_e ?_ | refine blockQ_n ?_ | refine blockQ_r ?_ | refine blockQ_e ?_ | (apply blockQ_o; (exact rfl)) | refine Awp.seq ?_ | refine Awp.skip ?_ | refine Awp.block ?_ | refine reg (fun s => s == 2 || s == 5) ?_ | (apply drwE mixed (fun s => s == 2 || s == 5); (kernel_rfl)) | refine fin ?_ | refine Awp.ret ?_ | refine Awp.exit ?_ | ((first | (apply off; (exact rfl)) | apply condF); (first | (focus (simp only [go_sem, ↓reduceIte, simprocAttr, t1, t2, t4, t5, hbC, l3, hp2, h5C] <;> rfl)) | exact rfl)))
        all_goals first | contradiction | (exfalso; omega) | skip
        refine ⟨hlC, hgC.set (by omega) _, by simp; omega, by rw [List.getElem?_set_ne (by omega)]; exact hcC, fun i x hi hx => ?_⟩
        by_cases e : i = j
        · subst e; rw [hj] at hx; cases hx; simp [loose, hp2]
        · exact hno i x (by omega) hx
  · rintro H1 ob ⟨hG, hl1, hc, hno⟩ hob
    have hc2 : (H1.set A.length .dead)[H.length]? = some (.cells [[bv false]] 4) := by rw [List.getElem?_set_ne (by omega)]; exact hc
    have hG2 := hG.set (show H.length ≤ A.length by omega) .dead
    generalize H1.set A.length .dead = B at *
    have hc3 := (heldS hc2).1 (.cells [[bv false]] 4)
    repeat' (first | refine spD (fun _ => ?_) (fun _ => ?_) | refine spF (fun _ => ?_) (fun _ => ?_) | (apply gT; (exact rfl)) | (apply off; (exact rfl); (exact rfl)) | (apply condT; (exact rfl)) | (apply condF; (exact rfl)) | ((first | (apply stp0; (exact rfl); (exact rfl)) | (apply stpN0; (exact rfl)) | apply gT | apply condT | ((first | apply bodyQ_d0 | apply bodyQ_d1 | apply bodyQ_d2 | apply bodyQ_d3 | apply bodyQ_d4); (exact .inr rfl); (rw [Try.results60]))); (first | (focus (simp only [go_sem, ↓reduceIte, simprocAttr, t1, t2, t10, hc2] <;> rfl)) | exact rfl); (first | (fail_if_success (show okD _ _ _ _ _ _ _ _ _)) | (first | exact okT | exact okN | exact okE rfl)); (first | (fail_if_success (show Bel _ _)) | (focus first | exact .val _ | (simp [oneOf, Bel_iff_tup, Bel_iff_agg, Bel_iff_rsl, Bel_iff_fn, Bel_iff_rptr, Bel_val]; done)))) | refine thenQ_n ?_ | refine thenQ_r ?_ | refine thenQ_e ?_ | refine blockQ_n ?_ | refine blockQ_r ?_ | refine blockQ_e ?_ | (apply blockQ_o; (exact rfl)) | refine Awp.seq ?_ | refine Awp.skip ?_ | refine Awp.block ?_ | refine reg (fun s => s == 2 || s == 5) ?_ | (apply drwE mixed (fun s => s == 2 || s == 5); (kernel_rfl)) | refine fin ?_ | refine Awp.ret ?_ | refine Awp.exit ?_ | ((first | (apply off; (exact rfl)) | apply condF); (first | (focus (simp only [go_sem, ↓reduceIte, simprocAttr, t1, t2, t10, hc2] <;> rfl)) | exact rfl)))
    all_goals first | contradiction | (exfalso; omega) | skip
    refine bodyQ_mk (vs := [bv false]) (.inr rfl) ?_ (Vs.refl _ _ _) (.inl ⟨lastL_none fun i x hi hx => hno i x (Nat.zero_le _) hx, rfl, hG2.set (Nat.le_refl _) _⟩)
    rw [Try.results60]; first | (simp only [go_sem, ↓reduceIte, simprocAttr, t2, hc3]; done) | (simp only [go_sem, ↓reduceIte, simprocAttr, t2, hc3]; rfl)
  · rintro H1 ⟨j, w', hj, hR', hF, ho, hc⟩
    repeat' (first | refine spD (fun _ => ?_) (fun _ => ?_) | refine spF (fun _ => ?_) (fun _ => ?_) | (apply gT; (exact rfl)) | (apply off; (exact rfl); (exact rfl)) | (apply condT; (exact rfl)) | (apply condF; (exact rfl)) | ((first | (apply stp0; (exact rfl); (exact rfl)) | (apply stpN0; (exact rfl)) | apply gT | apply condT | ((first | apply bodyQ_d0 | apply bodyQ_d1 | apply bodyQ_d2 | apply bodyQ_d3 | apply bodyQ_d4); (exact .inr rfl); (rw [Try.results60]))); (first | (focus (simp only [go_sem, ↓reduceIte, simprocAttr, t1, t2, t10, hc] <;> rfl)) | exact rfl); (first | (fail_if_success (show okD _ _ _ _ _ _ _ _ _)) | (first | exact okT | exact okN | exact okE rfl)); (first | (fail_if_success (show Bel _ _)) | (focus first | exact .val _ | (simp [oneOf, Bel_iff_tup, Bel_iff_agg, Bel_iff_rsl, Bel_iff_fn, Bel_iff_rptr, Bel_val]; done)))) | refine thenQ_n ?_ | refine thenQ_r ?_ | refine thenQ_e ?_ | refine blockQ_n ?_ | refine blockQ_r ?_ | refine blockQ_e ?_ | (apply blockQ_o; (exact rfl)) | refine Awp.seq ?_ | refine Awp.skip ?_ | refine Awp.block ?_ | refine reg (fun s => s == 2 || s == 5) ?_ | (apply drwE mixed (fun s => s == 2 || s == 5); (kernel_rfl)) | refine fin ?_ | refine Awp.ret ?_ | refine Awp.exit ?_ | ((first | (apply off; (exact rfl)) | apply condF); (first | (focus (simp only [go_sem, ↓reduceIte, simprocAttr, t1, t2, t10, hc] <;> rfl)) | exact rfl)))
    all_goals first | contradiction | (exfalso; omega) | skip
    refine bodyQ_mk (vs := [bv true]) (.inr rfl) ?_ (Vs.refl _ _ _) (.inr ⟨j, w', hj, rfl, hR', hF, ho⟩)
    rw [Try.results60]; first | (simp only [go_sem, ↓reduceIte, simprocAttr, t2, hc]; done) | (simp only [go_sem, ↓reduceIte, simprocAttr, t2, hc]; rfl)

end Go.Proofs.Ytlhchnnfgppneaa.Ab
