/- Rows of one's own, heaps that have grown. Buffers: maps with integer keys. Buffers: how a buffer lies in memory; valid, bytes, remove, Used. Inboxes: NewInbox, valid, Take, Copy. Loops over functions, by heaps that have grown; slices.Backward. -/
import Derived.Test.YtlhchnnfgppneaaYG
namespace Go.Proofs.Ytlhchnnfgppneaa.Ab
open Go Go.RowKit Go.Proofs
set_option linter.unusedSimpArgs false
set_option linter.unusedVariables false
attribute [local irreducible] Awp wpO thenQ blockQ bodyQ ACalls stepA

theorem stopR {P : Program} {n : Nat} {rd : Option Nat} {id : Nat} {ops : Array Oper} {b : Bool} {T : Env} {H : Hp} {Q : Exit → Env → Hp → Prop} (h : Awp P n rd (.region id ops b) T H Q) : Awp P n rd (.region id ops b) T H Q := h
theorem stopS {P : Program} {n : Nat} {rd : Option Nat} {id : Nat} {ops : Array Oper} {b : Bool} {c : Code} {T : Env} {H : Hp} {Q : Exit → Env → Hp → Prop} (h : Awp P n rd (.seq (.region id ops b) c) T H Q) : Awp P n rd (.seq (.region id ops b) c) T H Q := h

theorem heapOld {H K : Hp} (h : ∀ i, i < H.length → K[i]? = H[i]?) (hl : H.length ≤ K.length) : K = H ++ K.drop H.length := by
  refine List.ext_getElem? fun i => ?_
  by_cases hi : i < H.length
  · rw [h i hi, List.getElem?_append_left hi]
  · rw [List.getElem?_append_right (by omega), List.getElem?_drop]
    congr 1
    omega

/-- a block is turned -/
theorem heldS {B : Hp} {s : Nat} {v : AObj} (h : B[s]? = some v) :
    (∀ c, (B.set s c)[s]? = some c) ∧ (∀ c X, (B.set s c ++ X)[s]? = some c) ∧ (∀ c X Y, (B.set s c ++ X ++ Y)[s]? = some c) ∧ (∀ c X Y Z, (B.set s c ++ X ++ Y ++ Z)[s]? = some c) ∧ (∀ c X Y Z U, (B.set s c ++ X ++ Y ++ Z ++ U)[s]? = some c) ∧
    (∀ c X, (B ++ X).set s c = B.set s c ++ X) ∧ (∀ c X Y, (B ++ X ++ Y).set s c = B.set s c ++ X ++ Y) ∧ (∀ c X Y Z, (B ++ X ++ Y ++ Z).set s c = B.set s c ++ X ++ Y ++ Z) ∧ (∀ c X Y Z U, (B ++ X ++ Y ++ Z ++ U).set s c = B.set s c ++ X ++ Y ++ Z ++ U) ∧
    (∀ c d, (B.set s c).set s d = B.set s d) ∧ (∀ c d X, (B.set s c ++ X).set s d = B.set s d ++ X) ∧ (∀ c d X Y, (B.set s c ++ X ++ Y).set s d = B.set s d ++ X ++ Y) ∧ (∀ c d X Y Z, (B.set s c ++ X ++ Y ++ Z).set s d = B.set s d ++ X ++ Y ++ Z) ∧ (∀ c d X Y Z U, (B.set s c ++ X ++ Y ++ Z ++ U).set s d = B.set s d ++ X ++ Y ++ Z ++ U) := by
  have hlt := (List.getElem?_eq_some_iff.1 h).1
  have h1 : ∀ c, (B.set s c)[s]? = some c := fun c => List.getElem?_set_self hlt
  have hl : ∀ c, (B.set s c).length = B.length := fun c => List.length_set ..
  have h2 : ∀ (B' : Hp) c X, s < B'.length → (B' ++ X).set s c = B'.set s c ++ X := fun B' c X h => List.set_append_left _ _ h
  have h3 : ∀ c d, (B.set s c).set s d = B.set s d := fun c d => List.set_set ..
  refine ⟨h1, fun c X => ?_, fun c X Y => ?_, fun c X Y Z => ?_, fun c X Y Z U => ?_, fun c X => h2 _ _ _ hlt, fun c X Y => ?_, fun c X Y Z => ?_, fun c X Y Z U => ?_, h3, fun c d X => ?_, fun c d X Y => ?_, fun c d X Y Z => ?_, fun c d X Y Z U => ?_⟩
  · exact (held (h1 c)).2.1 _
  · exact (held (h1 c)).2.2.1 _ _
  · exact (held (h1 c)).2.2.2.1 _ _ _
  · exact (held (h1 c)).2.2.2.2.1 _ _ _ _
  · simp only [List.append_assoc]; exact h2 _ _ _ hlt
  · simp only [List.append_assoc]; exact h2 _ _ _ hlt
  · simp only [List.append_assoc]; exact h2 _ _ _ hlt
  · rw [h2 _ _ _ (by rw [hl]; exact hlt), h3]
  · simp only [List.append_assoc]; rw [h2 _ _ _ (by rw [hl]; exact hlt), h3]
  · simp only [List.append_assoc]; rw [h2 _ _ _ (by rw [hl]; exact hlt), h3]
  · simp only [List.append_assoc]; rw [h2 _ _ _ (by rw [hl]; exact hlt), h3]

/-- another block stays -/
theorem heldO {B : Hp} {s s' : Nat} {v : AObj} (hne : s ≠ s') (h : B[s']? = some v) :
    (∀ c, (B.set s c)[s']? = some v) ∧ (∀ c X, (B.set s c ++ X)[s']? = some v) ∧ (∀ c X Y, (B.set s c ++ X ++ Y)[s']? = some v) ∧ (∀ c X Y Z, (B.set s c ++ X ++ Y ++ Z)[s']? = some v) ∧ (∀ c X Y Z U, (B.set s c ++ X ++ Y ++ Z ++ U)[s']? = some v) := by
  have h1 : ∀ c, (B.set s c)[s']? = some v := fun c => by rw [List.getElem?_set_ne hne]; exact h
  exact ⟨h1, fun c X => (held (h1 c)).2.1 _, fun c X Y => (held (h1 c)).2.2.1 _ _, fun c X Y Z => (held (h1 c)).2.2.2.1 _ _ _, fun c X Y Z U => (held (h1 c)).2.2.2.2.1 _ _ _ _⟩

/-- a heap that has grown; its old part is as it was -/
structure Grow (H H' : Hp) : Prop where
  len : H.length ≤ H'.length
  old : ∀ j, j < H.length → H'[j]? = H[j]?

theorem Grow.refl (H : Hp) : Grow H H := ⟨Nat.le_refl _, fun _ _ => rfl⟩
theorem Grow.app {H H' : Hp} (h : Grow H H') (X : Hp) : Grow H (H' ++ X) :=
  ⟨by have := h.len; simp; omega, fun j hj => by rw [List.getElem?_append_left (by have := h.len; omega)]; exact h.old j hj⟩
theorem Grow.set {H H' : Hp} (h : Grow H H') {s : Nat} (hs : H.length ≤ s) (c : AObj) : Grow H (H'.set s c) :=
  ⟨by simpa using h.len, fun j hj => by rw [List.getElem?_set_ne (by omega)]; exact h.old j hj⟩
theorem Grow.trans {H H' H'' : Hp} (h : Grow H H') (k : Grow H' H'') : Grow H H'' :=
  ⟨Nat.le_trans h.len k.len, fun j hj => (k.old j (by have := h.len; omega)).trans (h.old j hj)⟩
theorem Grow.split {H H' : Hp} (h : Grow H H') : ∃ X, H' = H ++ X := ⟨_, heapOld h.old h.len⟩
theorem Grow.get {H H' : Hp} (h : Grow H H') {s : Nat} {v : AObj} (hs : H[s]? = some v) : H'[s]? = some v := by
  rw [h.old s (List.getElem?_eq_some_iff.1 hs).1]; exact hs

section
variable {P : Program} {T : Env} {fn : Func} {H0 X : Hp} {e : Exit}

abbrev Plain (es : List (List AV)) : Prop := ∀ e ∈ es, ∀ a ∈ e, ∃ v, a = .val v

theorem Bel_plain {es : List (List AV)} (h : Plain es) (m : Nat) (ex : Bool) : Bel m (.rsl es ex) := by
  rw [Bel_iff_rsl]
  intro e he a ha
  obtain ⟨v, rfl⟩ := h e he a ha
  exact .val v

theorem Vs.frz {b : Nat} {es : List (List AV)} {t : TypeId} (hb : (H0 ++ X)[b]? = some (.cells es t)) (hl : H0.length ≤ b) (hp : Plain es) : Vs H0 (.msl b 0 es.length) (H0 ++ X) (.rsl es false) H0 := by
  have h1 := Vs.freeze (H0 := H0) (off := 0) (len := es.length) hb (by omega)
  rw [List.drop_zero, List.take_length] at h1
  refine h1.trans ?_
  rw [List.set_append_right _ _ hl]
  exact Vs.drop (Bel_plain hp _ _)

theorem Vs.frz2 {b : Nat} {es : List (List AV)} {t : TypeId} {x : Value} (hb : (H0 ++ X)[b]? = some (.cells es t)) (hl : H0.length ≤ b) (hp : Plain es) : Vs H0 (.tup [.msl b 0 es.length, .val x]) (H0 ++ X) (.tup [.rsl es false, .val x]) H0 := by
  have h1 := Vs.freeze_tup (H0 := H0) (cs := [.msl b 0 es.length, .val x]) (i := 0) (off := 0) (len := es.length) rfl hb (by omega)
  rw [List.drop_zero, List.take_length] at h1
  refine h1.trans ?_
  rw [List.set_append_right _ _ hl]
  refine Vs.drop ?_
  rw [Bel_iff_tup]
  intro c hc
  simp at hc
  rcases hc with rfl | rfl
  · exact Bel_plain hp _ _
  · exact .val _

theorem Vs.nil0 {H : Hp} : Vs H0 nilS H (.rsl [] false) H := by
  intro base w0 g0 g w x _ _ hg S hR
  cases hR
  exact ⟨g, hg, S, .rnil _⟩
theorem Vs.nil2 {H : Hp} {x : AV} : Vs H0 (.tup [nilS, x]) H (.tup [.rsl [] false, x]) H := by
  intro base w0 g0 g w x' _ _ hg S hR
  refine ⟨g, hg, S, ?_⟩
  cases hR with
  | tup hl hr =>
    refine .tup hl fun i c v hc hv => ?_
    match i with
    | 0 =>
      cases hc
      have := hr 0 _ v rfl hv
      cases this
      exact .rnil _
    | i + 1 => exact hr (i + 1) c v hc hv

theorem bodyQ_frz {b len : Nat} {es : List (List AV)} {t : TypeId} (he : e = .normal ∨ e = .ret) (hr : resL P T (H0 ++ X) fn.results.toList = some [.msl b 0 len]) (hb : (H0 ++ X)[b]? = some (.cells es t)) (hl : H0.length ≤ b) (hn : len = es.length) (hp : Plain es) :
    bodyQ P fn H0 (fun v1 H1 => v1 = .rsl es false ∧ H1 = H0) e T (H0 ++ X) := by
  subst hn
  exact bodyQ_mk (vs := [.msl b 0 es.length]) he hr (Vs.frz hb hl hp) ⟨rfl, rfl⟩
/-- the same, of a heap that has grown -/
theorem bodyQ_frzG {H1 : Hp} {b len : Nat} {es : List (List AV)} {t : TypeId} (he : e = .normal ∨ e = .ret) (hr : resL P T H1 fn.results.toList = some [.msl b 0 len]) (hG : Grow H0 H1) (hb : H1[b]? = some (.cells es t)) (hl : H0.length ≤ b) (hn : len = es.length) (hp : Plain es) :
    bodyQ P fn H0 (fun v1 H1 => v1 = .rsl es false ∧ H1 = H0) e T H1 := by
  obtain ⟨X, rfl⟩ := hG.split
  exact bodyQ_frz he hr hb hl hn hp
theorem bodyQ_sameG {H1 : Hp} {vs : List AV} {v : AV} (he : e = .normal ∨ e = .ret) (hr : resL P T H1 fn.results.toList = some vs) (hG : Grow H0 H1) (hb : Bel H0.length (oneOf vs)) (hv : oneOf vs = v) :
    bodyQ P fn H0 (fun v1 H1 => v1 = v ∧ H1 = H0) e T H1 := by
  obtain ⟨X, rfl⟩ := hG.split
  exact bodyQ_d1 he hr hb hv
theorem bodyQ_frz2 {b len : Nat} {es : List (List AV)} {t : TypeId} {x : Value} (he : e = .normal ∨ e = .ret) (hr : resL P T (H0 ++ X) fn.results.toList = some [.msl b 0 len, .val x]) (hb : (H0 ++ X)[b]? = some (.cells es t)) (hl : H0.length ≤ b) (hn : len = es.length) (hp : Plain es) :
    bodyQ P fn H0 (fun v1 H1 => v1 = .tup [.rsl es false, .val x] ∧ H1 = H0) e T (H0 ++ X) := by
  subst hn
  exact bodyQ_mk (vs := [.msl b 0 es.length, .val x]) he hr (Vs.frz2 hb hl hp) ⟨rfl, rfl⟩
theorem bodyQ_frz2G {H1 : Hp} {b len : Nat} {es : List (List AV)} {t : TypeId} {x : Value} (he : e = .normal ∨ e = .ret) (hr : resL P T H1 fn.results.toList = some [.msl b 0 len, .val x]) (hG : Grow H0 H1) (hb : H1[b]? = some (.cells es t)) (hl : H0.length ≤ b) (hn : len = es.length) (hp : Plain es) :
    bodyQ P fn H0 (fun v1 H1 => v1 = .tup [.rsl es false, .val x] ∧ H1 = H0) e T H1 := by
  obtain ⟨X, rfl⟩ := hG.split
  exact bodyQ_frz2 he hr hb hl hn hp
end

theorem plainInts (v : List Int) : Plain (ints v) := by
  intro e he a ha
  obtain ⟨x, _, rfl⟩ := List.mem_map.1 he
  simp at ha; exact ⟨_, ha⟩
theorem plain_set {es : List (List AV)} (h : Plain es) {p : Nat} {e : List AV} (he : ∀ a ∈ e, ∃ v, a = .val v) : Plain (es.set p e) := by
  intro e' he' a ha
  rcases List.mem_or_eq_of_mem_set he' with h1 | rfl
  · exact h e' h1 a ha
  · exact he a ha
theorem BelO_plain {es : List (List AV)} {t : TypeId} (h : ∀ e ∈ es, ∀ a ∈ e, ∃ v, a = .val v) (m : Nat) : BelO m (.cells es t) :=
  .cells fun e he a ha => by obtain ⟨v, rfl⟩ := h e he a ha; exact .val v

/-- a row of one's own, or nothing yet -/
inductive Own (lo : Nat) (t : TypeId) (H : Hp) : AV → List (List AV) → Prop
  | nil : Own lo t H nilS []
  | fix {es : List (List AV)} : Own lo t H (.rsl es true) es
  | row {b : Nat} {es : List (List AV)} (hne : es ≠ []) (hlo : lo ≤ b) (hb : H[b]? = some (.cells es t)) : Own lo t H (.msl b 0 es.length) es

structure OwnR (lo : Nat) (t : TypeId) (k b : Nat) (H : Hp) (a : AV) (es : List (List AV)) : Prop where
  own : Own lo t H a es
  hk : ∀ e ∈ es, e.length = k
  hb : (es.length + 1) * b ≤ 140737488355328

/-- the heap without the row -/
def ownK (H : Hp) (a : AV) : Hp := match a with
  | .msl b _ _ => H.set b .dead
  | _ => H

theorem ownK_len (H : Hp) (a : AV) : (ownK H a).length = H.length := by
  unfold ownK; split <;> simp

section
variable {lo : Nat} {t : TypeId} {H H' : Hp} {a : AV} {es : List (List AV)}

theorem Own.app (h : Own lo t H a es) (X : Hp) : Own lo t (H ++ X) a es := by
  cases h with
  | nil => exact .nil
  | fix => exact .fix
  | row hne hlo hb => exact .row hne hlo ((held hb).2.1 X)
theorem Own.set (h : Own lo t H a es) {s : Nat} {ob c : AObj} (hs : H[s]? = some ob) (hne : ob ≠ .cells es t) : Own lo t (H.set s c) a es := by
  cases h with
  | nil => exact .nil
  | fix => exact .fix
  | row hn hlo hb =>
    refine .row hn hlo ?_
    rw [List.getElem?_set_ne]
    · exact hb
    · rintro rfl; rw [hs] at hb; exact hne (by simpa using hb)
theorem Own.setLow (h : Own lo t H a es) {s : Nat} (hs : s < lo) (c : AObj) : Own lo t (H.set s c) a es := by
  cases h with
  | nil => exact .nil
  | fix => exact .fix
  | row hn hlo hb => exact .row hn hlo (by rw [List.getElem?_set_ne (by omega)]; exact hb)
theorem ownK_low (h : Own lo t H a es) {s : Nat} (hs : s < lo) : (ownK H a)[s]? = H[s]? := by
  cases h with
  | nil => rfl
  | fix => rfl
  | row hn hlo hb => exact List.getElem?_set_ne (by omega)
theorem Own.low (h : Own lo t H a es) {lo' : Nat} (hl : lo' ≤ lo) : Own lo' t H a es := by
  cases h with
  | nil => exact .nil
  | fix => exact .fix
  | row hn hlo hb => exact .row hn (by omega) hb
theorem Own.get (h : Own lo t H a es) (hH : ∀ j ob, lo ≤ j → H[j]? = some ob → H'[j]? = some ob) : Own lo t H' a es := by
  cases h with
  | nil => exact .nil
  | fix => exact .fix
  | row hn hlo hb => exact .row hn hlo (hH _ _ hlo hb)
theorem Own.of (h : Own lo t H a es) (hG : Grow H H') : Own lo t H' a es := h.get fun _ _ _ h => hG.get h
theorem OwnR.of {k b : Nat} (h : OwnR lo t k b H a es) (hG : Grow H H') : OwnR lo t k b H' a es := ⟨h.own.of hG, h.hk, h.hb⟩
theorem OwnR.app {k b : Nat} (h : OwnR lo t k b H a es) (X : Hp) : OwnR lo t k b (H ++ X) a es := ⟨h.own.app X, h.hk, h.hb⟩

theorem Own.next (h : Own lo t H a es) (hl : lo ≤ H.length) (x : List AV) {n m : Nat} (hn : n = H.length) (hm : m = es.length + 1) : Own lo t (ownK H a ++ [.cells (es ++ [x]) t]) (.msl n 0 m) (es ++ [x]) := by
  subst hn; subst hm
  have : es.length + 1 = (es ++ [x]).length := by simp
  rw [this, ← ownK_len H a]
  exact .row (by simp) (by rw [ownK_len]; exact hl) (get_new _ _)

theorem Own.other (h : Own lo t H a es) {j : Nat} {ob : AObj} (hj : H[j]? = some ob) (hne : ob ≠ .cells es t) : (ownK H a)[j]? = some ob := by
  cases h with
  | nil => exact hj
  | fix => exact hj
  | row hn hlo hb =>
    show (H.set _ .dead)[j]? = _
    rw [List.getElem?_set_ne]
    · exact hj
    · rintro rfl; rw [hj] at hb; exact hne (by simpa using hb)

theorem Own.grow {H0 : Hp} (h : Own lo t H a es) (hl : H0.length ≤ lo) (hG : Grow H0 H) : Grow H0 (ownK H a) := by
  cases h with
  | nil => exact hG
  | fix => exact hG
  | row hn hlo hb => exact hG.set (by omega) _

/-- forgetting: the blocks behind -/
theorem ownK_app (h : Own lo t H a es) (X : Hp) : ownK (H ++ X) a = ownK H a ++ X := by
  cases h with
  | nil => rfl
  | fix => rfl
  | row hn hlo hb => exact List.set_append_left _ _ (List.getElem?_eq_some_iff.1 hb).1
end

section
variable {P : Program} {mu : Nat → Bool} {n : Nat} {d : Option Draw} {done : List (Option Tmp)} {rest : List Oper} {T : Env} {H : Hp} {K : Env → Hp → Prop} {ty : TypeId} {pos : String} {aft : Array Edge} {s : Tmp}

/-- an append to a row of one's own -/
theorem stpApp {x y : Operand} {t e : TypeId} {kk b lo : Nat} {a : AV} {es : List (List AV)} {xe : List AV} {ex : Bool} (hd : dstOk n (some s) = true) (hO : OwnR lo e kk b H a es) (hs : evA T x = a) (hx : evA T y = .rsl [xe] ex) (hc : xe.all AV.isCell = true) (hxl : xe.length = kk)
    (hap : ∀ s x H, appendA P t t s x H = appendB e kk b s x H)
    (ho : okD P mu d done.length ⟨some s, .call ⟨.builtin .append, #[x, y], #[t, t]⟩, ty, pos, aft, none⟩ T H (.msl H.length 0 (es.length + 1)) (ownK H a ++ [.cells (es ++ [xe]) e]))
    (k : wpO P mu n d (done ++ [some s]) rest (upd T s (.msl H.length 0 (es.length + 1))) (ownK H a ++ [.cells (es ++ [xe]) e]) K) :
    wpO P mu n d done (⟨some s, .call ⟨.builtin .append, #[x, y], #[t, t]⟩, ty, pos, aft, none⟩ :: rest) T H K := by
  refine stp0 hd rfl ?_ ho k
  simp only [stepA, builtinA, List.map_cons, List.map_nil]
  rw [hap, hs, hx]
  obtain ⟨hO, hk, hb⟩ := hO
  have hsrc : srcA kk (.rsl [xe] ex) H = some [xe] := by
    unfold srcA
    first | rfl | (simp [hxl]; done)
  unfold appendB
  rw [hsrc]
  simp only [List.length_singleton, Nat.one_ne_zero, if_false]
  cases hO with
  | nil =>
    simp only [List.length_nil, Nat.zero_add] at hb ⊢
    rw [if_pos hb]
    rfl
  | fix =>
    simp only []
    rw [if_pos ⟨by rw [List.all_eq_true]; intro e he; simpa using hk e he, hb⟩]
    rfl
  | row hne hlo hbk =>
    have hpos : 0 < es.length := by
      rcases Nat.eq_zero_or_pos es.length with h | h
      · exact absurd (List.eq_nil_of_length_eq_zero h) hne
      · exact h
    simp only [hbk]
    rw [if_pos ⟨by trivial, Nat.le_refl _, hpos, by rw [List.all_eq_true]; intro e he; simpa using hk e he, by simpa using hc, hb⟩, List.take_length]
    rfl
end

section
variable {P : Program} {T : Env} {fn : Func} {H0 H1 : Hp} {e : Exit} {a : AV} {es : List (List AV)} {t : TypeId}

theorem Vs.unfix {H : Hp} {ex : Bool} : Vs H0 (.rsl es ex) H (.rsl es false) H := by
  intro base w0 g0 g w x _ _ hg S hR
  refine ⟨g, hg, S, ?_⟩
  cases hR with
  | rsl vs hn hl hc hm hk hf hr => exact .rsl vs hn hl (fun h => by cases h) hm hk hf hr
  | rnil a => exact .rnil a
theorem Vs.unfix2 {H : Hp} {ex : Bool} {x : AV} : Vs H0 (.tup [.rsl es ex, x]) H (.tup [.rsl es false, x]) H := by
  intro base w0 g0 g w x' h1 h2 hg S hR
  cases hR with
  | tup hl hr =>
    refine ⟨g, hg, S, .tup hl fun i c v hc hv => ?_⟩
    match i with
    | 0 =>
      cases hc
      have := hr 0 _ v rfl hv
      cases this with
      | rsl vs hn hl hc hm hk hf hr => exact .rsl vs hn hl (fun h => by cases h) hm hk hf hr
      | rnil a => exact .rnil a
    | i + 1 => exact hr (i + 1) c v hc hv

theorem bodyQ_own (he : e = .normal ∨ e = .ret) (hr : resL P T H1 fn.results.toList = some [a]) (hG : Grow H0 H1) (hO : Own H0.length t H1 a es) (hp : Plain es) : bodyQ P fn H0 (fun v1 H1 => v1 = .rsl es false ∧ H1 = H0) e T H1 := by
  cases hO with
  | nil =>
    obtain ⟨X, rfl⟩ := hG.split
    exact bodyQ_mk he hr (Vs.nil0.trans (Vs.drop (Bel_plain hp _ _))) ⟨rfl, rfl⟩
  | fix =>
    obtain ⟨X, rfl⟩ := hG.split
    exact bodyQ_mk he hr (Vs.unfix.trans (Vs.drop (Bel_plain hp _ _))) ⟨rfl, rfl⟩
  | row hne hlo hb => exact bodyQ_frzG he hr hG hb hlo rfl hp
theorem bodyQ_own2 {x : Value} (he : e = .normal ∨ e = .ret) (hr : resL P T H1 fn.results.toList = some [a, .val x]) (hG : Grow H0 H1) (hO : Own H0.length t H1 a es) (hp : Plain es) : bodyQ P fn H0 (fun v1 H1 => v1 = .tup [.rsl es false, .val x] ∧ H1 = H0) e T H1 := by
  cases hO with
  | nil =>
    obtain ⟨X, rfl⟩ := hG.split
    refine bodyQ_mk he hr (Vs.nil2.trans (Vs.drop ?_)) ⟨rfl, rfl⟩
    rw [Bel_iff_tup]
    intro c hc
    simp at hc
    rcases hc with rfl | rfl
    · exact Bel_plain hp _ _
    · exact .val _
  | fix =>
    obtain ⟨X, rfl⟩ := hG.split
    refine bodyQ_mk he hr (Vs.unfix2.trans (Vs.drop ?_)) ⟨rfl, rfl⟩
    rw [Bel_iff_tup]
    intro c hc
    simp at hc
    rcases hc with rfl | rfl
    · exact Bel_plain hp _ _
    · exact .val _
  | row hne hlo hb => exact bodyQ_frz2G he hr hG hb hlo rfl hp
end

section
variable {lo : Nat} {t : TypeId} {H : Hp} {a a' : AV} {es : List (List AV)}
theorem Own.keep (h : Own lo t H a es) (hd : ∀ b n m, a' = .msl b 0 n → a ≠ .msl b 0 m) (ha' : ∀ b o n, a' = .msl b o n → o = 0) : Own lo t (ownK H a') a es := by
  cases h with
  | nil => exact .nil
  | fix => exact .fix
  | row hn hlo hb =>
    refine .row hn hlo ?_
    unfold ownK
    split
    · rename_i b o n
      have := ha' b o n rfl
      subst this
      rw [List.getElem?_set_ne]
      · exact hb
      · rintro rfl; exact hd _ n _ rfl rfl
    · exact hb
theorem Own.zero (h : Own lo t H a es) : ∀ b o n, a = .msl b o n → o = 0 := by
  intro b o n e
  cases h <;> cases e
  rfl
theorem Own.lt (h : Own lo t H a es) : ∀ b o n, a = .msl b o n → b < H.length := by
  intro b o n e
  cases h with
  | nil => cases e
  | fix => cases e
  | row hn hlo hb => cases e; exact (List.getElem?_eq_some_iff.1 hb).1
theorem Own.ge (h : Own lo t H a es) : ∀ b o n, a = .msl b o n → lo ≤ b := by
  intro b o n e
  cases h with
  | nil => cases e
  | fix => cases e
  | row hn hlo hb => cases e; exact hlo
end

/-- a row of one's own that never turns any more, at a slot -/
theorem Awp.frzOwn {P : Program} {n : Nat} {rd : Option Nat} {c : Code} {T : Env} {H : Hp} {Q : Exit → Env → Hp → Prop} {lo : Nat} {t : TypeId} {a : AV} {es : List (List AV)} (s : Nat) (hO : Own lo t H a es) (hs : T s = a)
    (h : Awp P n rd c (upd T s (.rsl es false)) (ownK H a) Q) : Awp P n rd c T H Q := by
  cases hO with
  | row hne hlo hb =>
    have := Awp.freeze1 s es.length hs (Nat.le_refl _) hb (P := P) (n := n) (rd := rd) (c := c) (Q := Q)
    rw [List.take_length] at this
    exact this h
  | nil =>
    unfold Awp at *
    intro base w0 g w a r S hTR hr
    refine h base w0 g w a r S ⟨hTR.size, fun s' => ?_⟩ hr
    show R g (if s' = s then _ else _) _
    by_cases e : s' = s
    · subst e
      rw [if_pos rfl]
      have := hTR.slot s'
      rw [hs] at this
      generalize a.tmps.getD s' undef = z at this
      cases this
      exact .rnil _
    · rw [if_neg e]; exact hTR.slot s'
  | fix =>
    unfold Awp at *
    intro base w0 g w a r S hTR hr
    refine h base w0 g w a r S ⟨hTR.size, fun s' => ?_⟩ hr
    show R g (if s' = s then _ else _) _
    by_cases e : s' = s
    · subst e
      rw [if_pos rfl]
      have := hTR.slot s'
      rw [hs] at this
      generalize a.tmps.getD s' undef = z at this
      cases this with
      | rsl vs hn hl hc hm hk hf hr => exact .rsl vs hn hl (fun h => by cases h) hm hk hf hr
      | rnil a => exact .rnil a
    · rw [if_neg e]; exact hTR.slot s'

theorem tmod_nat {x : Int} {n : Nat} (hx : 0 ≤ x) : x.tmod (n : Int) = ((x.toNat % n : Nat) : Int) := by
  rw [Int.tmod_eq_emod_of_nonneg hx]
  obtain ⟨k, rfl⟩ := Int.eq_ofNat_of_zero_le hx
  simp

end Go.Proofs.Ytlhchnnfgppneaa.Ab
namespace Go.Proofs.Ytlhchnnfgppneaa.Ab
open Go Go.RowKit Go.Proofs
set_option linter.unusedSimpArgs false
set_option linter.unusedVariables false
attribute [local irreducible] Awp wpO thenQ blockQ bodyQ ACalls stepA

def findM (x : Int) : List (Int × AV) → Nat → Option (Nat × AV)
  | [], _ => none
  | p :: l, i => if x = p.1 then some (i, p.2) else findM x l (i + 1)
def ents (ks : List (Int × AV)) : List (AV × AV) := ks.map fun p => (iv p.1, p.2)
theorem findA_M (x : Int) : ∀ (ks : List (Int × AV)) (i : Nat), findA .i64 x (ents ks) i = some (findM x ks i)
  | [], i => rfl
  | p :: l, i => by
    show (if IntKind.i64 = IntKind.i64 then (if x = p.1 then some (some (i, p.2)) else findA .i64 x (ents l) (i + 1)) else none) = _
    rw [if_pos rfl]
    unfold findM
    split
    · rfl
    · exact findA_M x l (i + 1)
theorem findM_shift (x : Int) : ∀ (ks : List (Int × AV)) (i : Nat), findM x ks i = (findM x ks 0).map fun p => (p.1 + i, p.2)
  | [], i => rfl
  | p :: l, i => by
    unfold findM
    split
    · simp
    · rw [findM_shift x l (i + 1), findM_shift x l (0 + 1)]
      cases findM x l 0 with
      | none => rfl
      | some q => simp; omega

/-- what a map holds -/
def getM (ks : List (Int × AV)) (x : Int) : Option AV := (findM x ks 0).map (·.2)
theorem getM_nil (x : Int) : getM [] x = none := rfl
theorem getM_cons (p : Int × AV) (l : List (Int × AV)) (x : Int) : getM (p :: l) x = if x = p.1 then some p.2 else getM l x := by
  unfold getM
  conv => lhs; unfold findM
  split
  · rfl
  · rw [findM_shift]
    cases findM x l 0 <;> rfl
def setM (x : Int) (v : AV) (ks : List (Int × AV)) : List (Int × AV) := match findM x ks 0 with
  | some (i, _) => ks.set i (x, v)
  | none => ks ++ [(x, v)]
def delM (x : Int) (ks : List (Int × AV)) : List (Int × AV) := match findM x ks 0 with
  | some (i, _) => ks.eraseIdx i
  | none => ks
theorem getM_none {x : Int} : ∀ {ks : List (Int × AV)}, getM ks x = none ↔ x ∉ ks.map (·.1)
  | [] => by simp [getM_nil]
  | p :: l => by
    rw [getM_cons]
    split
    · rename_i h; simp [h]
    · rename_i h; rw [getM_none]; simp [h]
theorem setM_cons (x : Int) (v : AV) (p : Int × AV) (l : List (Int × AV)) : setM x v (p :: l) = if x = p.1 then (x, v) :: l else p :: setM x v l := by
  unfold setM
  conv => lhs; unfold findM
  split
  · rename_i h
    split at h
    · rename_i e; cases h; simp [e]
    · rename_i e
      rw [if_neg e]
      rw [findM_shift] at h
      cases hf : findM x l 0 with
      | none => rw [hf] at h; cases h
      | some q => rw [hf] at h; simp at h; obtain ⟨rfl, rfl⟩ := h; rfl
  · rename_i h
    split at h
    · cases h
    · rename_i e
      rw [if_neg e]
      rw [findM_shift] at h
      cases hf : findM x l 0 with
      | none => rfl
      | some q => rw [hf] at h; cases h
theorem delM_cons (x : Int) (p : Int × AV) (l : List (Int × AV)) : delM x (p :: l) = if x = p.1 then l else p :: delM x l := by
  unfold delM
  conv => lhs; unfold findM
  split
  · rename_i h
    split at h
    · rename_i e; cases h; simp [e]
    · rename_i e
      rw [if_neg e]
      rw [findM_shift] at h
      cases hf : findM x l 0 with
      | none => rw [hf] at h; cases h
      | some q => rw [hf] at h; simp at h; obtain ⟨rfl, rfl⟩ := h; rfl
  · rename_i h
    split at h
    · cases h
    · rename_i e
      rw [if_neg e]
      rw [findM_shift] at h
      cases hf : findM x l 0 with
      | none => rfl
      | some q => rw [hf] at h; cases h
theorem getM_set (x : Int) (v : AV) : ∀ (ks : List (Int × AV)) (y : Int), getM (setM x v ks) y = if y = x then some v else getM ks y
  | [], y => by
    show getM [(x, v)] y = _
    rw [getM_cons]
  | p :: l, y => by
    rw [setM_cons]
    by_cases e : x = p.1
    · rw [if_pos e, getM_cons, getM_cons]
      by_cases k : y = x
      · rw [if_pos k, if_pos k]
      · rw [if_neg k, if_neg k, if_neg (by rw [← e]; exact k)]
    · rw [if_neg e, getM_cons, getM_cons, getM_set x v l y]
      by_cases k : y = p.1
      · rw [if_pos k, if_pos k, if_neg (by rw [k]; exact Ne.symm e)]
      · rw [if_neg k, if_neg k]
theorem setM_keys (x : Int) (v : AV) : ∀ (ks : List (Int × AV)), (ks.map (·.1)).Nodup → ((setM x v ks).map (·.1)).Nodup ∧ ∀ y, y ∈ (setM x v ks).map (·.1) → y = x ∨ y ∈ ks.map (·.1)
  | [], _ => by
    show ([(x, v)].map (·.1)).Nodup ∧ _
    simp [setM, findM]
  | p :: l, h => by
    rw [setM_cons]
    simp only [List.map_cons, List.nodup_cons] at h
    by_cases e : x = p.1
    · rw [if_pos e]
      simp only [List.map_cons, List.nodup_cons, List.mem_cons]
      exact ⟨⟨by rw [e]; exact h.1, h.2⟩, fun y hy => by rcases hy with h | h; exact .inl h; exact .inr (.inr h)⟩
    · rw [if_neg e]
      obtain ⟨h1, h2⟩ := setM_keys x v l h.2
      simp only [List.map_cons, List.nodup_cons, List.mem_cons]
      refine ⟨⟨fun m => ?_, h1⟩, fun y hy => ?_⟩
      · rcases h2 _ m with k | k
        · exact e k.symm
        · exact h.1 k
      · rcases hy with k | k
        · exact .inr (.inl k)
        · rcases h2 y k with k | k
          · exact .inl k
          · exact .inr (.inr k)
theorem getM_del {x : Int} : ∀ (ks : List (Int × AV)), (ks.map (·.1)).Nodup → ∀ y, getM (delM x ks) y = if y = x then none else getM ks y
  | [], _, y => by simp [delM, findM, getM_nil]
  | p :: l, h, y => by
    simp only [List.map_cons, List.nodup_cons] at h
    rw [delM_cons]
    by_cases e : x = p.1
    · rw [if_pos e, getM_cons]
      by_cases k : y = x
      · rw [if_pos k, getM_none, k, e]; exact h.1
      · rw [if_neg k, if_neg (by rw [← e]; exact k)]
    · rw [if_neg e, getM_cons, getM_cons, getM_del l h.2 y]
      by_cases k : y = p.1
      · rw [if_pos k, if_pos k, if_neg (by rw [k]; exact Ne.symm e)]
      · rw [if_neg k, if_neg k]
theorem delM_keys {x : Int} : ∀ (ks : List (Int × AV)), (ks.map (·.1)).Nodup → ((delM x ks).map (·.1)).Nodup ∧ ∀ y, y ∈ (delM x ks).map (·.1) → y ∈ ks.map (·.1)
  | [], _ => by simp [delM, findM]
  | p :: l, h => by
    simp only [List.map_cons, List.nodup_cons] at h
    rw [delM_cons]
    by_cases e : x = p.1
    · rw [if_pos e]
      exact ⟨h.2, fun y hy => by simp [hy]⟩
    · rw [if_neg e]
      obtain ⟨h1, h2⟩ := delM_keys (x := x) l h.2
      simp only [List.map_cons, List.nodup_cons, List.mem_cons]
      exact ⟨⟨fun m => h.1 (h2 _ m), h1⟩, fun y hy => by rcases hy with k | k; exact .inl k; exact .inr (h2 y k)⟩

/-- a map's entries tell a function -/
structure MapIs (ks : List (Int × AV)) (f : Int → Option AV) : Prop where
  nd : (ks.map (·.1)).Nodup
  get : ∀ x, getM ks x = f x
theorem MapIs.set {ks : List (Int × AV)} {f : Int → Option AV} (h : MapIs ks f) (x : Int) (v : AV) {f' : Int → Option AV} (hf : ∀ y, f' y = if y = x then some v else f y) : MapIs (setM x v ks) f' :=
  ⟨(setM_keys x v ks h.nd).1, fun y => by rw [getM_set, h.get, hf]⟩
theorem MapIs.del {ks : List (Int × AV)} {f : Int → Option AV} (h : MapIs ks f) (x : Int) {f' : Int → Option AV} (hf : ∀ y, f' y = if y = x then none else f y) : MapIs (delM x ks) f' :=
  ⟨(delM_keys ks h.nd).1, fun y => by rw [getM_del ks h.nd, h.get, hf]⟩
theorem MapIs.nil : MapIs [] (fun _ => none) := ⟨by simp, fun _ => rfl⟩

section
variable {H : Hp} {b : Nat} {ks : List (Int × AV)} {f : Int → Option AV} {t et : TypeId} {z : AV}
/-- a type of maps from integers -/
structure MapT (t et : TypeId) (z : AV) : Prop where
  und : Try.prog.underlying t = some (.map 2 et)
  zero : ∃ v, zeroV Try.prog et = some v ∧ unV v = z
theorem key2 : intKey Try.prog 2 = some .i64 := by unfold intKey; rw [Try.underlying2]
theorem MapT.look (hT : MapT t et z) (h : MapIs ks f) (hb : H[b]? = some (.amap (ents ks))) (x : Int) (ok : Bool) :
    lookA Try.prog t (.mp b) (iv x) ok H = some (match f x with | some v => if ok then .tup [v, bv true] else v | none => if ok then .tup [z, bv false] else z) := by
  obtain ⟨v, h1, h2⟩ := hT.zero
  have e4 : entsA (.mp b) H = some (ents ks) := by unfold entsA; simp only [hb]
  unfold lookA
  simp only [hT.und, key2, h1, e4, findA_M]
  rw [← h.get x]
  unfold getM
  cases findM x ks 0 with
  | none => cases ok <;> simp [h2]
  | some p => cases ok <;> rfl
theorem MapT.upd (hT : MapT t et z) (hb : H[b]? = some (.amap (ents ks))) (x : Int) (v : AV) : updA Try.prog t (.mp b) (iv x) v H = some (H.set b (.amap (ents (setM x v ks)))) := by
  unfold updA
  simp only [hT.und, key2, hb, findA_M]
  unfold setM
  cases findM x ks 0 with
  | none => simp [ents]
  | some p => simp [ents, List.map_set]
theorem eraseIdx_map {α β : Type} (g : α → β) : ∀ (l : List α) (i : Nat), (l.map g).eraseIdx i = (l.eraseIdx i).map g
  | [], _ => rfl
  | _ :: _, 0 => rfl
  | x :: l, i + 1 => by simp [eraseIdx_map g l i]
theorem MapT.del (hT : MapT t et z) (hb : H[b]? = some (.amap (ents ks))) (x : Int) : delA Try.prog t (.mp b) (iv x) H = some (H.set b (.amap (ents (delM x ks)))) := by
  unfold delA
  simp only [hT.und, key2, hb, findA_M]
  unfold delM
  cases findM x ks 0 with
  | none => rfl
  | some p => simp [ents, eraseIdx_map]
end

def recZ : AV := .agg [iv 0, iv 0, iv 0, iv 0, iv 0]
theorem mT40 : MapT 40 23 recZ := ⟨by kernel_rfl, ⟨.agg #[.int .i64 0, .int .i64 0, .int .i64 0, .int .i64 0, .int .i64 0], by unfold zeroV; kernel_rfl, rfl⟩⟩
theorem mT106 : MapT 106 3 (iv 0) := ⟨by kernel_rfl, ⟨.int .i64 0, by unfold zeroV; kernel_rfl, rfl⟩⟩
theorem mT107 : MapT 107 2 (iv 0) := ⟨by kernel_rfl, ⟨.int .i64 0, by unfold zeroV; kernel_rfl, rfl⟩⟩

end Go.Proofs.Ytlhchnnfgppneaa.Ab
namespace Go.Proofs.Ytlhchnnfgppneaa.Ab
open Go Go.RowKit Go.Proofs
set_option linter.unusedSimpArgs false
set_option linter.unusedVariables false
attribute [local irreducible] Awp wpO thenQ blockQ bodyQ ACalls stepA

theorem MapT.look0 {t et : TypeId} {z : AV} {H : Hp} {b : Nat} {ks : List (Int × AV)} (hT : MapT t et z) (hb : H[b]? = some (.amap (ents ks))) (x : Int) :
    lookA Try.prog t (.mp b) (iv x) true H = some (.tup [(getM ks x).getD z, bv (getM ks x).isSome]) ∧ lookA Try.prog t (.mp b) (iv x) false H = some ((getM ks x).getD z) := by
  obtain ⟨v, h1, h2⟩ := hT.zero
  have e4 : entsA (.mp b) H = some (ents ks) := by unfold entsA; simp only [hb]
  unfold lookA
  simp only [hT.und, key2, h1, e4, findA_M]
  unfold getM
  cases findM x ks 0 with
  | none => simp [h2]
  | some p => simp

structure Ft where
  b : Nat
  r : Nat
  s : Nat
  t : Nat
structure Rw where
  cap : Int
  used : Int
  time : Int
  ord : AV
  kr : List (Int × AV)
  ks : List (Int × AV)
  kt : List (Int × AV)
def Rw.cs (w : Rw) (F : Ft) : List AV := [iv w.cap, iv w.used, iv w.time, w.ord, .mp F.r, .mp F.s, .mp F.t]
structure RepW (H : Hp) (F : Ft) (w : Rw) : Prop where
  hb : H[F.b]? = some (.cells [w.cs F] 109)
  hr : H[F.r]? = some (.amap (ents w.kr))
  hs : H[F.s]? = some (.amap (ents w.ks))
  ht : H[F.t]? = some (.amap (ents w.kt))
  rs : F.r ≠ F.s
  rt : F.r ≠ F.t
  st : F.s ≠ F.t
/-- nothing else has turned -/
structure Fr (F : Ft) (H H' : Hp) : Prop where
  len : H.length ≤ H'.length
  old : ∀ j, j < H.length → j ≠ F.b → j ≠ F.r → j ≠ F.s → j ≠ F.t → H'[j]? = H[j]?
theorem Fr.refl (F : Ft) (H : Hp) : Fr F H H := ⟨Nat.le_refl _, fun _ _ _ _ _ _ => rfl⟩
theorem Fr.trans {F : Ft} {H H' H'' : Hp} (h : Fr F H H') (k : Fr F H' H'') : Fr F H H'' :=
  ⟨Nat.le_trans h.len k.len, fun j hj a b c d => (k.old j (Nat.lt_of_lt_of_le hj h.len) a b c d).trans (h.old j hj a b c d)⟩
theorem Fr.app {F : Ft} {H H' : Hp} (h : Fr F H H') (X : Hp) : Fr F H (H' ++ X) :=
  ⟨by have := h.len; simp; omega, fun j hj a b c d => by rw [List.getElem?_append_left (by have := h.len; omega)]; exact h.old j hj a b c d⟩
theorem RepW.ne {H : Hp} {F : Ft} {w : Rw} (h : RepW H F w) : F.b ≠ F.r ∧ F.b ≠ F.s ∧ F.b ≠ F.t := by
  have h1 := h.hb
  refine ⟨fun e => ?_, fun e => ?_, fun e => ?_⟩
  · have := h.hr; rw [← e, h1] at this; simp at this
  · have := h.hs; rw [← e, h1] at this; simp at this
  · have := h.ht; rw [← e, h1] at this; simp at this
theorem RepW.app {H : Hp} {F : Ft} {w : Rw} (h : RepW H F w) (X : Hp) : RepW (H ++ X) F w :=
  ⟨(held h.hb).2.1 X, (held h.hr).2.1 X, (held h.hs).2.1 X, (held h.ht).2.1 X, h.rs, h.rt, h.st⟩
theorem RepW.grow {H H' : Hp} {F : Ft} {w : Rw} (h : RepW H F w) (hG : Grow H H') : RepW H' F w :=
  ⟨hG.get h.hb, hG.get h.hr, hG.get h.hs, hG.get h.ht, h.rs, h.rt, h.st⟩
section
variable {H : Hp} {F : Ft} {w : Rw}
/-- the struct turns -/
theorem RepW.setB (h : RepW H F w) (u t : Int) (o : AV) : RepW (H.set F.b (.cells [[iv w.cap, iv u, iv t, o, .mp F.r, .mp F.s, .mp F.t]] 109)) F { w with used := u, time := t, ord := o } ∧ Fr F H (H.set F.b (.cells [[iv w.cap, iv u, iv t, o, .mp F.r, .mp F.s, .mp F.t]] 109)) := by
  obtain ⟨n1, n2, n3⟩ := h.ne
  refine ⟨⟨(heldS h.hb).1 _, (heldO n1 h.hr).1 _, (heldO n2 h.hs).1 _, (heldO n3 h.ht).1 _, h.rs, h.rt, h.st⟩, by simp, fun j _ a b c d => List.getElem?_set_ne (Ne.symm a)⟩
theorem RepW.setR (h : RepW H F w) (k : List (Int × AV)) : RepW (H.set F.r (.amap (ents k))) F { w with kr := k } ∧ Fr F H (H.set F.r (.amap (ents k))) := by
  obtain ⟨n1, n2, n3⟩ := h.ne
  refine ⟨⟨(heldO (Ne.symm n1) h.hb).1 _, (heldS h.hr).1 _, (heldO h.rs h.hs).1 _, (heldO h.rt h.ht).1 _, h.rs, h.rt, h.st⟩, by simp, fun j _ a b c d => List.getElem?_set_ne (Ne.symm b)⟩
theorem RepW.setS (h : RepW H F w) (k : List (Int × AV)) : RepW (H.set F.s (.amap (ents k))) F { w with ks := k } ∧ Fr F H (H.set F.s (.amap (ents k))) := by
  obtain ⟨n1, n2, n3⟩ := h.ne
  refine ⟨⟨(heldO (Ne.symm n2) h.hb).1 _, (heldO (Ne.symm h.rs) h.hr).1 _, (heldS h.hs).1 _, (heldO h.st h.ht).1 _, h.rs, h.rt, h.st⟩, by simp, fun j _ a b c d => List.getElem?_set_ne (Ne.symm c)⟩
theorem RepW.setT (h : RepW H F w) (k : List (Int × AV)) : RepW (H.set F.t (.amap (ents k))) F { w with kt := k } ∧ Fr F H (H.set F.t (.amap (ents k))) := by
  obtain ⟨n1, n2, n3⟩ := h.ne
  refine ⟨⟨(heldO (Ne.symm n3) h.hb).1 _, (heldO (Ne.symm h.rt) h.hr).1 _, (heldO (Ne.symm h.st) h.hs).1 _, (heldS h.ht).1 _, h.rs, h.rt, h.st⟩, by simp, fun j _ a b c d => List.getElem?_set_ne (Ne.symm d)⟩
end

set_option maxRecDepth 8000 in
theorem valid_ok {H : Hp} {F : Ft} {w : Rw} (h : RepW H F w) : CallsTo Try.prog 56 [.mptr F.b 0 0] H (bv true) H := by
  have hb := h.hb
  simp only [Rw.cs] at hb
  refine ACalls.of_body Try.func56 rfl (by kernel_rfl) (by rw [Try.ntmps56]; simp) ?_; rw [Try.ntmps56]
  repeat' (first | refine spD (fun _ => ?_) (fun _ => ?_) | refine spF (fun _ => ?_) (fun _ => ?_) | (apply gT; (exact rfl)) | (apply off; (exact rfl); (exact rfl)) | (apply condT; (exact rfl)) | (apply condF; (exact rfl)) | ((first | (apply stp0; (exact rfl); (exact rfl)) | (apply stpN0; (exact rfl)) | apply gT | apply condT | ((first | apply bodyQ_d0 | apply bodyQ_d1 | apply bodyQ_d2 | apply bodyQ_d3 | apply bodyQ_d4); (exact .inr rfl); (rw [Try.results56]))); (first | (focus (simp only [go_sem, ↓reduceIte, simprocAttr, hb] <;> rfl)) | exact rfl); (first | (fail_if_success (show okD _ _ _ _ _ _ _ _ _)) | (first | exact okT | exact okN | exact okE rfl)); (first | (fail_if_success (show Bel _ _)) | (focus first | exact .val _ | (simp [oneOf, Bel_iff_tup, Bel_iff_agg, Bel_iff_rsl, Bel_iff_fn, Bel_iff_rptr, Bel_val]; done)))) | refine thenQ_n ?_ | refine thenQ_r ?_ | refine thenQ_e ?_ | refine blockQ_n ?_ | refine blockQ_r ?_ | refine blockQ_e ?_ | (apply blockQ_o; (exact rfl)) | refine Awp.seq ?_ | refine Awp.skip ?_ | refine Awp.block ?_ | refine reg (fun s => false) ?_ | (apply drwE mixed (fun s => false); (kernel_rfl)) | refine fin ?_ | refine Awp.ret ?_ | refine Awp.exit ?_ | ((first | (apply off; (exact rfl)) | apply condF); (first | (focus (simp only [go_sem, ↓reduceIte, simprocAttr, hb] <;> rfl)) | exact rfl)))
  all_goals first | rfl | contradiction | (exfalso; omega) | skip

set_option maxRecDepth 8000 in
theorem bytes_ok {H : Hp} {F : Ft} {w : Rw} (h : RepW H F w) (id : Int) (r : Item) (sm : Int) (h1 : (getM w.kr id).getD recZ = .agg r.cs) (h2 : (getM w.ks id).getD (iv 0) = iv sm) :
    CallsTo Try.prog 63 [.mptr F.b 0 0, iv id] H (iv (if sm > 0 then r.pk else r.size)) H := by
  have hb := h.hb
  simp only [Rw.cs] at hb
  have l1 := (mT40.look0 h.hr id).2
  rw [h1] at l1
  simp only [Item.cs] at l1
  have l2 : ∀ X, lookA Try.prog 106 (.mp F.s) (iv id) false (H ++ X) = some (iv sm) := fun X => by rw [(mT106.look0 ((held h.hs).2.1 X) id).2, h2]
  have hb2 := held hb
  by_cases hs : sm > 0
  · rw [if_pos hs]
    refine ACalls.of_body Try.func63 rfl (by kernel_rfl) (by rw [Try.ntmps63]; simp) ?_; rw [Try.ntmps63]
    repeat' (first | refine spD (fun _ => ?_) (fun _ => ?_) | refine spF (fun _ => ?_) (fun _ => ?_) | (apply gT; (exact rfl)) | (apply off; (exact rfl); (exact rfl)) | (apply condT; (exact rfl)) | (apply condF; (exact rfl)) | ((first | (apply stp0; (exact rfl); (exact rfl)) | (apply stpN0; (exact rfl)) | apply gT | apply condT | ((first | apply bodyQ_d0 | apply bodyQ_d1 | apply bodyQ_d2 | apply bodyQ_d3 | apply bodyQ_d4); (exact .inr rfl); (rw [Try.results63]))); (first | (focus (simp only [go_sem, ↓reduceIte, simprocAttr, hb, hb2, l1, l2, hs] <;> rfl)) | exact rfl); (first | (fail_if_success (show okD _ _ _ _ _ _ _ _ _)) | (first | exact okT | exact okN | exact okE rfl)); (first | (fail_if_success (show Bel _ _)) | (focus first | exact .val _ | (simp [oneOf, Bel_iff_tup, Bel_iff_agg, Bel_iff_rsl, Bel_iff_fn, Bel_iff_rptr, Bel_val]; done)))) | refine thenQ_n ?_ | refine thenQ_r ?_ | refine thenQ_e ?_ | refine blockQ_n ?_ | refine blockQ_r ?_ | refine blockQ_e ?_ | (apply blockQ_o; (exact rfl)) | refine Awp.seq ?_ | refine Awp.skip ?_ | refine Awp.block ?_ | refine reg (fun s => s == 5) ?_ | (apply drwE mixed (fun s => s == 5); (kernel_rfl)) | refine fin ?_ | refine Awp.ret ?_ | refine Awp.exit ?_ | ((first | (apply off; (exact rfl)) | apply condF); (first | (focus (simp only [go_sem, ↓reduceIte, simprocAttr, hb, hb2, l1, l2, hs] <;> rfl)) | exact rfl)))
    all_goals first | rfl | contradiction | (exfalso; omega) | skip
  · rw [if_neg hs]
    refine ACalls.of_body Try.func63 rfl (by kernel_rfl) (by rw [Try.ntmps63]; simp) ?_; rw [Try.ntmps63]
    repeat' (first | refine spD (fun _ => ?_) (fun _ => ?_) | refine spF (fun _ => ?_) (fun _ => ?_) | (apply gT; (exact rfl)) | (apply off; (exact rfl); (exact rfl)) | (apply condT; (exact rfl)) | (apply condF; (exact rfl)) | ((first | (apply stp0; (exact rfl); (exact rfl)) | (apply stpN0; (exact rfl)) | apply gT | apply condT | ((first | apply bodyQ_d0 | apply bodyQ_d1 | apply bodyQ_d2 | apply bodyQ_d3 | apply bodyQ_d4); (exact .inr rfl); (rw [Try.results63]))); (first | (focus (simp only [go_sem, ↓reduceIte, simprocAttr, hb, hb2, l1, l2, hs] <;> rfl)) | exact rfl); (first | (fail_if_success (show okD _ _ _ _ _ _ _ _ _)) | (first | exact okT | exact okN | exact okE rfl)); (first | (fail_if_success (show Bel _ _)) | (focus first | exact .val _ | (simp [oneOf, Bel_iff_tup, Bel_iff_agg, Bel_iff_rsl, Bel_iff_fn, Bel_iff_rptr, Bel_val]; done)))) | refine thenQ_n ?_ | refine thenQ_r ?_ | refine thenQ_e ?_ | refine blockQ_n ?_ | refine blockQ_r ?_ | refine blockQ_e ?_ | (apply blockQ_o; (exact rfl)) | refine Awp.seq ?_ | refine Awp.skip ?_ | refine Awp.block ?_ | refine reg (fun s => s == 5) ?_ | (apply drwE mixed (fun s => s == 5); (kernel_rfl)) | refine fin ?_ | refine Awp.ret ?_ | refine Awp.exit ?_ | ((first | (apply off; (exact rfl)) | apply condF); (first | (focus (simp only [go_sem, ↓reduceIte, simprocAttr, hb, hb2, l1, l2, hs] <;> rfl)) | exact rfl)))
    all_goals first | rfl | contradiction | (exfalso; omega) | skip

set_option maxRecDepth 8000 in
theorem Used_ok {H : Hp} {F : Ft} {w : Rw} (h : RepW H F w) : CallsTo Try.prog 28 [.mptr F.b 0 0] H (iv w.used) H := by
  have hb := h.hb
  simp only [Rw.cs] at hb
  have hv := valid_ok h
  refine ACalls.of_body Try.func28 rfl (by kernel_rfl) (by rw [Try.ntmps28]; simp) ?_; rw [Try.ntmps28]
  repeat' (first | refine spD (fun _ => ?_) (fun _ => ?_) | refine spF (fun _ => ?_) (fun _ => ?_) | (apply gT; (exact rfl)) | (apply off; (exact rfl); (exact rfl)) | (apply condT; (exact rfl)) | (apply condF; (exact rfl)) | ((first | (apply stp0; (exact rfl); (exact rfl)) | (apply stpN0; (exact rfl)) | apply gT | apply condT | ((first | apply bodyQ_d0 | apply bodyQ_d1 | apply bodyQ_d2 | apply bodyQ_d3 | apply bodyQ_d4); (exact .inr rfl); (rw [Try.results28]))); (first | (focus (simp only [go_sem, ↓reduceIte, simprocAttr, hb] <;> rfl)) | exact rfl); (first | (fail_if_success (show okD _ _ _ _ _ _ _ _ _)) | (first | exact okT | exact okN | exact okE rfl)); (first | (fail_if_success (show Bel _ _)) | (focus first | exact .val _ | (simp [oneOf, Bel_iff_tup, Bel_iff_agg, Bel_iff_rsl, Bel_iff_fn, Bel_iff_rptr, Bel_val]; done)))) | (apply calTo0; (exact rfl); (iterate 2 (simp only [go_sem, ↓reduceIte, simprocAttr, hb]; rfl)); (first | exact hv); (first | exact okT | exact okN | exact okE rfl)) | refine thenQ_n ?_ | refine thenQ_r ?_ | refine thenQ_e ?_ | refine blockQ_n ?_ | refine blockQ_r ?_ | refine blockQ_e ?_ | (apply blockQ_o; (exact rfl)) | refine Awp.seq ?_ | refine Awp.skip ?_ | refine Awp.block ?_ | refine reg (fun s => false) ?_ | (apply drwE mixed (fun s => false); (kernel_rfl)) | refine fin ?_ | refine Awp.ret ?_ | refine Awp.exit ?_ | ((first | (apply off; (exact rfl)) | apply condF); (first | (focus (simp only [go_sem, ↓reduceIte, simprocAttr, hb] <;> rfl)) | exact rfl)))
  all_goals first | rfl | contradiction | (exfalso; omega) | skip

set_option maxRecDepth 8000 in
theorem remove_ok {H : Hp} {F : Ft} {w : Rw} (h : RepW H F w) (id : Int) (r : Item) (sm : Int) (h1 : (getM w.kr id).getD recZ = .agg r.cs) (h2 : (getM w.ks id).getD (iv 0) = iv sm) (hu : -1099511627776 ≤ w.used - (if sm > 0 then r.pk else r.size) ∧ w.used - (if sm > 0 then r.pk else r.size) ≤ 1099511627776) :
    ACalls Try.prog 61 [.mptr F.b 0 0, iv id] H fun v1 H1 => v1 = .tup [] ∧ RepW H1 F { w with used := w.used - (if sm > 0 then r.pk else r.size), kr := delM id w.kr, ks := delM id w.ks, kt := delM id w.kt } ∧ Fr F H H1 := by
  have hb := h.hb
  simp only [Rw.cs] at hb
  have hy := bytes_ok h id r sm h1 h2
  generalize (if sm > 0 then r.pk else r.size) = y at *
  have wy : IntKind.i64.wrap (w.used - y) = w.used - y := w64 (by omega) (by omega)
  obtain ⟨R1, F1⟩ := h.setB (w.used - y) w.time w.ord
  obtain ⟨R2, F2⟩ := R1.setR (delM id w.kr)
  obtain ⟨R3, F3⟩ := R2.setS (delM id w.ks)
  obtain ⟨R4, F4⟩ := R3.setT (delM id w.kt)
  have d1 := mT40.del R1.hr id
  have d2 := mT106.del R2.hs id
  have d3 := mT107.del R3.ht id
  have b1 := R1.hb
  have b2 := R2.hb
  have b3 := R3.hb
  simp only [Rw.cs] at b1 b2 b3 d1 d2 d3
  refine ACalls.of_body Try.func61 rfl (by kernel_rfl) (by rw [Try.ntmps61]; simp) ?_; rw [Try.ntmps61]
  repeat' (first | refine spD (fun _ => ?_) (fun _ => ?_) | refine spF (fun _ => ?_) (fun _ => ?_) | (apply gT; (exact rfl)) | (apply off; (exact rfl); (exact rfl)) | (apply condT; (exact rfl)) | (apply condF; (exact rfl)) | ((first | (apply stp0; (exact rfl); (exact rfl)) | (apply stpN0; (exact rfl)) | apply gT | apply condT | ((first | apply bodyQ_d0 | apply bodyQ_d1 | apply bodyQ_d2 | apply bodyQ_d3 | apply bodyQ_d4); (exact .inr rfl); (rw [Try.results61]))); (first | (focus (simp only [go_sem, ↓reduceIte, simprocAttr, hb, wy, b1, b2, b3, d1, d2, d3] <;> rfl)) | exact rfl); (first | (fail_if_success (show okD _ _ _ _ _ _ _ _ _)) | (first | exact okT | exact okN | exact okE rfl)); (first | (fail_if_success (show Bel _ _)) | (focus first | exact .val _ | (simp [oneOf, Bel_iff_tup, Bel_iff_agg, Bel_iff_rsl, Bel_iff_fn, Bel_iff_rptr, Bel_val]; done)))) | (apply calTo0; (exact rfl); (iterate 2 (simp only [go_sem, ↓reduceIte, simprocAttr, hb, wy, b1, b2, b3, d1, d2, d3]; rfl)); (first | exact hy); (first | exact okT | exact okN | exact okE rfl)) | refine thenQ_n ?_ | refine thenQ_r ?_ | refine thenQ_e ?_ | refine blockQ_n ?_ | refine blockQ_r ?_ | refine blockQ_e ?_ | (apply blockQ_o; (exact rfl)) | refine Awp.seq ?_ | refine Awp.skip ?_ | refine Awp.block ?_ | refine reg (fun s => false) ?_ | (apply drwL mixed (fun s => false) (.of fun _ => false); (exact rfl); (kernel_rfl); (kernel_rfl); simp only [List.pop_toArray, List.dropLast_cons_cons, List.dropLast_singleton, List.map_cons, List.map_nil]) | refine fin ?_ | refine Awp.ret ?_ | refine Awp.exit ?_ | ((first | (apply off; (exact rfl)) | apply condF); (first | (focus (simp only [go_sem, ↓reduceIte, simprocAttr, hb, wy, b1, b2, b3, d1, d2, d3] <;> rfl)) | exact rfl)))
  all_goals first | contradiction | (exfalso; omega) | skip
  refine bodyQ_mk (vs := []) (.inl rfl) ?_ (Vs.refl _ _ _) ?_
  · rw [Try.results61]; first | (simp only [go_sem, ↓reduceIte, simprocAttr]; done) | (simp only [go_sem, ↓reduceIte, simprocAttr]; rfl)
  · exact ⟨rfl, R4, ((F1.trans F2).trans F3).trans F4⟩

end Go.Proofs.Ytlhchnnfgppneaa.Ab
namespace Go.Proofs.Ytlhchnnfgppneaa.Ab
open Go Go.RowKit Go.Proofs
set_option linter.unusedSimpArgs false
set_option linter.unusedVariables false
attribute [local irreducible] Awp wpO thenQ blockQ bodyQ ACalls stepA

def idsR (R : List Item) : List Int := R.map fun r => r.id
def findR : List Item → Int → Option Item
  | [], _ => none
  | r :: l, x => if x = r.id then some r else findR l x
def itF (R : List Item) (x : Int) : Option AV := (findR R x).map fun r => .agg r.cs
theorem findR_none {x : Int} : ∀ {R : List Item}, findR R x = none ↔ x ∉ idsR R
  | [] => by simp [findR, idsR]
  | r :: l => by
    unfold findR
    split
    · rename_i e; simp [idsR, e]
    · rename_i e
      rw [findR_none]
      simp [idsR, e]
theorem findR_at : ∀ {R : List Item} {i : Nat} {r : Item}, (idsR R).Nodup → R[i]? = some r → findR R r.id = some r
  | x :: l, 0, r, _, h => by simp at h; subst h; simp [findR]
  | x :: l, i + 1, r, hn, h => by
    have hn' := List.nodup_cons.1 hn
    have hm : r ∈ l := List.mem_of_getElem? (by simpa using h)
    have hne : r.id ≠ x.id := fun e => hn'.1 (by show x.id ∈ _; rw [← e]; exact List.mem_map.2 ⟨r, hm, rfl⟩)
    unfold findR
    rw [if_neg hne]
    exact findR_at hn'.2 (by simpa using h)

/-- where a record goes -/
def placeR : List Item → Int → Nat
  | [], _ => 0
  | h :: l, x => if h.id < x then placeR l x + 1 else 0
theorem placeR_le (x : Int) : ∀ R : List Item, placeR R x ≤ R.length
  | [] => Nat.le_refl _
  | h :: l => by
    have := placeR_le x l
    unfold placeR; split <;> simp <;> omega
theorem placeR_lt {x : Int} : ∀ {R : List Item} {i : Nat} {r : Item}, R[i]? = some r → i < placeR R x → r.id < x
  | h :: l, 0, r, hi, hp => by
    unfold placeR at hp
    split at hp
    · rename_i k; simp at hi; subst hi; exact k
    · omega
  | h :: l, i + 1, r, hi, hp => by
    unfold placeR at hp
    split at hp
    · exact placeR_lt (R := l) (i := i) (by simpa using hi) (by omega)
    · omega
theorem placeR_at {x : Int} : ∀ {R : List Item} {r : Item}, R[placeR R x]? = some r → x ≤ r.id
  | [], r, h => by simp [placeR] at h
  | a :: l, r, h => by
    unfold placeR at h
    split at h
    · exact placeR_at (R := l) (by simpa using h)
    · rename_i k; simp at h; subst h; omega
def srtR (R : List Item) : Prop := R.Pairwise fun a b => a.id < b.id
theorem srtR.ids {R : List Item} (h : srtR R) : (idsR R).Pairwise (· < ·) := List.pairwise_map.2 h
theorem srtR.nd {R : List Item} (h : srtR R) : (idsR R).Nodup := h.ids.imp fun h => by omega
theorem placeR_mem {R : List Item} {x : Int} (hs : srtR R) (hx : x ∈ idsR R) : ∃ r, R[placeR R x]? = some r ∧ r.id = x := by
  obtain ⟨r, hr, rfl⟩ := List.mem_map.1 hx
  obtain ⟨i, hi⟩ := List.getElem?_of_mem hr
  have hil := (List.getElem?_eq_some_iff.1 hi).1
  have h1 : ¬ i < placeR R r.id := fun k => by have := placeR_lt hi k; omega
  have h2 : ¬ placeR R r.id < i := fun k => by
    obtain ⟨y, hy⟩ : ∃ y, R[placeR R r.id]? = some y := ⟨_, List.getElem?_eq_getElem (by omega)⟩
    have h3 := placeR_at hy
    have g1 := List.getElem?_eq_some_iff.1 hy
    have g2 := List.getElem?_eq_some_iff.1 hi
    have := List.pairwise_iff_getElem.1 hs _ _ g1.1 g2.1 k
    rw [g1.2, g2.2] at this
    omega
  have e : i = placeR R r.id := by omega
  exact ⟨r, by rw [← e]; exact hi, rfl⟩

/-- what an inbox holds after a Take -/
def tkE (R : List Item) (r : Item) : Int := if ¬ r.ok then 2 else if r.id ∈ idsR R then 0 else if 256 ≤ R.length then 11 else 0
def tkB (R : List Item) (r : Item) : Bool := decide (r.ok ∧ r.id ∉ idsR R ∧ R.length < 256)
def tkR (R : List Item) (r : Item) : List Item := if tkB R r then R.take (placeR R r.id) ++ r :: R.drop (placeR R r.id) else R
theorem insR_mem {R : List Item} {a : Nat} {r y : Item} : y ∈ R.take a ++ r :: R.drop a ↔ y = r ∨ y ∈ R := by
  rw [List.mem_append, List.mem_cons]
  have e : y ∈ R ↔ y ∈ R.take a ∨ y ∈ R.drop a := by conv => lhs; rw [← List.take_append_drop a R]
                                                     exact List.mem_append
  rw [e]
  constructor
  · rintro (h | h | h) <;> simp [h]
  · rintro (h | h | h) <;> simp [h]
theorem tkR_srt {R : List Item} {r : Item} (hs : srtR R) : srtR (tkR R r) := by
  unfold tkR
  split
  · rename_i h
    have hb : r.ok ∧ r.id ∉ idsR R ∧ R.length < 256 := of_decide_eq_true h
    unfold srtR at *
    rw [List.pairwise_append, List.pairwise_cons]
    have hd : ∀ y ∈ R.drop (placeR R r.id), r.id < y.id := by
      intro y hy
      obtain ⟨j, hj⟩ := List.getElem?_of_mem hy
      rw [List.getElem?_drop] at hj
      have hjl := List.getElem?_eq_some_iff.1 hj
      have hjl1 := hjl.1
      obtain ⟨z, hz⟩ : ∃ z, R[placeR R r.id]? = some z := ⟨_, List.getElem?_eq_getElem (by omega)⟩
      have h1 := placeR_at hz
      have g1 := List.getElem?_eq_some_iff.1 hz
      have hne : y.id ≠ r.id := fun e => hb.2.1 (by rw [← e]; exact List.mem_map.2 ⟨y, List.mem_of_getElem? hj, rfl⟩)
      rcases Nat.eq_zero_or_pos j with h0 | h0
      · subst h0
        rw [Nat.add_zero, hz] at hj; cases hj; omega
      · have := List.pairwise_iff_getElem.1 hs _ _ g1.1 hjl.1 (by omega)
        rw [g1.2, hjl.2] at this; omega
    refine ⟨hs.sublist (List.take_sublist ..), ⟨hd, hs.sublist (List.drop_sublist ..)⟩, fun x hx y hy => ?_⟩
    obtain ⟨i, hi⟩ := List.getElem?_of_mem hx
    rw [List.getElem?_take] at hi
    split at hi
    · rename_i hip
      have h1 := placeR_lt hi hip
      rcases List.mem_cons.1 hy with rfl | hy
      · exact h1
      · have := hd y hy; omega
    · cases hi
  · exact hs
theorem tkR_len (R : List Item) (r : Item) : (tkR R r).length ≤ R.length + 1 := by
  unfold tkR
  split
  · have := placeR_le r.id R
    simp; omega
  · omega
theorem tkR_mem {R : List Item} {r y : Item} (h : y ∈ tkR R r) : y ∈ R ∨ (y = r ∧ r.ok) := by
  unfold tkR at h
  split at h
  · rename_i hb
    rcases insR_mem.1 h with rfl | h
    · exact .inr ⟨rfl, (of_decide_eq_true hb : _ ∧ _).1⟩
    · exact .inl h
  · exact .inl h
theorem tkR_find {R : List Item} {r : Item} (hs : srtR R) (hb : tkB R r = true) (y : Int) : findR (tkR R r) y = if y = r.id then some r else findR R y := by
  have hs2 := tkR_srt (r := r) hs
  have hR : tkR R r = R.take (placeR R r.id) ++ r :: R.drop (placeR R r.id) := by unfold tkR; rw [if_pos hb]
  have hmem : ∀ z, z ∈ tkR R r ↔ z = r ∨ z ∈ R := fun z => by rw [hR]; exact insR_mem
  by_cases e : y = r.id
  · rw [if_pos e, e]
    obtain ⟨i, hi⟩ := List.getElem?_of_mem ((hmem r).2 (.inl rfl))
    exact findR_at hs2.nd hi
  · rw [if_neg e]
    cases h : findR R y with
    | none =>
      rw [findR_none] at h ⊢
      intro k
      obtain ⟨z, hz, hzy⟩ := List.mem_map.1 k
      rcases (hmem z).1 hz with rfl | hz
      · exact e hzy.symm
      · exact h (List.mem_map.2 ⟨z, hz, hzy⟩)
    | some z =>
      have hz : y ∈ idsR R := Classical.byContradiction fun k => by rw [findR_none.2 k] at h; cases h
      obtain ⟨z', hz', rfl⟩ := List.mem_map.1 hz
      obtain ⟨i, hi⟩ := List.getElem?_of_mem hz'
      rw [findR_at hs.nd hi] at h
      cases h
      obtain ⟨j, hj⟩ := List.getElem?_of_mem ((hmem z).2 (.inr hz'))
      exact findR_at hs2.nd hj

theorem mapKeys {ks : List (Int × AV)} {R : List Item} (h : MapIs ks (itF R)) (hs : srtR R) : (ks.map (·.1)).Perm (idsR R) := by
  rw [List.perm_ext_iff_of_nodup h.nd hs.nd]
  intro x
  have h1 := h.get x
  unfold itF at h1
  have h2 : getM ks x = none ↔ x ∉ ks.map (·.1) := getM_none
  have h3 := findR_none (x := x) (R := R)
  constructor
  · intro hx
    refine Classical.byContradiction fun k => ?_
    rw [h3.2 k] at h1
    exact h2.1 h1 hx
  · intro hx
    refine Classical.byContradiction fun k => ?_
    rw [h2.2 k] at h1
    cases e : findR R x with
    | none => exact h3.1 e hx
    | some _ => rw [e] at h1; cases h1
theorem mapLen {ks : List (Int × AV)} {R : List Item} (h : MapIs ks (itF R)) (hs : srtR R) : ks.length = R.length := by
  have := (mapKeys h hs).length_eq
  simpa [idsR] using this

set_option maxRecDepth 8000 in
theorem newInbox (H : Hp) : CallsTo Try.prog 38 [] H (.rptr [.mp H.length] 0) (H ++ [.amap []]) := by
  refine ACalls.of_body Try.func38 rfl (by kernel_rfl) (by rw [Try.ntmps38]; simp) ?_; rw [Try.ntmps38]
  repeat' (first | refine spD (fun _ => ?_) (fun _ => ?_) | refine spF (fun _ => ?_) (fun _ => ?_) | (apply gT; (exact rfl)) | (apply off; (exact rfl); (exact rfl)) | (apply condT; (exact rfl)) | (apply condF; (exact rfl)) | ((first | (apply stp0; (exact rfl); (exact rfl)) | (apply stpN0; (exact rfl)) | apply gT | apply condT); (first | (focus (simp only [go_sem, ↓reduceIte, simprocAttr] <;> rfl)) | exact rfl); (first | (fail_if_success (show okD _ _ _ _ _ _ _ _ _)) | (first | exact okT | exact okN | exact okE rfl))) | refine thenQ_n ?_ | refine thenQ_r ?_ | refine thenQ_e ?_ | refine blockQ_n ?_ | refine blockQ_r ?_ | refine blockQ_e ?_ | (apply blockQ_o; (exact rfl)) | refine Awp.seq ?_ | refine Awp.skip ?_ | refine Awp.block ?_ | refine reg (fun s => false) ?_ | (apply drwE mixed (fun s => false); (kernel_rfl)) | refine fin ?_ | refine Awp.ret ?_ | refine Awp.exit ?_ | ((first | (apply off; (exact rfl)) | apply condF); (first | (focus (simp only [go_sem, ↓reduceIte, simprocAttr] <;> rfl)) | exact rfl)))
  all_goals first | contradiction | (exfalso; omega) | skip
  exact bodyQ_mk (vs := [.rptr [.mp H.length] 0]) (.inr rfl) (by rw [Try.results38]; simp only [go_sem, ↓reduceIte, simprocAttr]) (Vs.refl _ _ _) ⟨rfl, rfl⟩
set_option maxRecDepth 8000 in
theorem validX (H : Hp) (m : Nat) : CallsTo Try.prog 74 [.rptr [.mp m] 0] H (bv true) H := by
  refine ACalls.of_body Try.func74 rfl (by kernel_rfl) (by rw [Try.ntmps74]; simp) ?_; rw [Try.ntmps74]
  repeat' (first | refine spD (fun _ => ?_) (fun _ => ?_) | refine spF (fun _ => ?_) (fun _ => ?_) | (apply gT; (exact rfl)) | (apply off; (exact rfl); (exact rfl)) | (apply condT; (exact rfl)) | (apply condF; (exact rfl)) | ((first | (apply stp0; (exact rfl); (exact rfl)) | (apply stpN0; (exact rfl)) | apply gT | apply condT | ((first | apply bodyQ_d0 | apply bodyQ_d1 | apply bodyQ_d2 | apply bodyQ_d3 | apply bodyQ_d4); (exact .inr rfl); (rw [Try.results74]))); (first | (focus (simp only [go_sem, ↓reduceIte, simprocAttr] <;> rfl)) | exact rfl); (first | (fail_if_success (show okD _ _ _ _ _ _ _ _ _)) | (first | exact okT | exact okN | exact okE rfl)); (first | (fail_if_success (show Bel _ _)) | (focus first | exact .val _ | (simp [oneOf, Bel_iff_tup, Bel_iff_agg, Bel_iff_rsl, Bel_iff_fn, Bel_iff_rptr, Bel_val]; done)))) | refine thenQ_n ?_ | refine thenQ_r ?_ | refine thenQ_e ?_ | refine blockQ_n ?_ | refine blockQ_r ?_ | refine blockQ_e ?_ | (apply blockQ_o; (exact rfl)) | refine Awp.seq ?_ | refine Awp.skip ?_ | refine Awp.block ?_ | refine reg (fun s => false) ?_ | (apply drwE mixed (fun s => false); (kernel_rfl)) | refine fin ?_ | refine Awp.ret ?_ | refine Awp.exit ?_ | ((first | (apply off; (exact rfl)) | apply condF); (first | (focus (simp only [go_sem, ↓reduceIte, simprocAttr] <;> rfl)) | exact rfl)))
  all_goals first | rfl | contradiction | (exfalso; omega) | skip
set_option maxRecDepth 8000 in
theorem copyX {H : Hp} {m : Nat} {es : List (AV × AV)} (hm : H[m]? = some (.amap es)) : CallsTo Try.prog 39 [.rptr [.mp m] 0] H (.rptr [.mp H.length] 0) (H ++ [.amap es]) := by
  have hv := validX H m
  have hc := clone71_ok hm
  refine ACalls.of_body Try.func39 rfl (by kernel_rfl) (by rw [Try.ntmps39]; simp) ?_; rw [Try.ntmps39]
  repeat' (first | refine spD (fun _ => ?_) (fun _ => ?_) | refine spF (fun _ => ?_) (fun _ => ?_) | (apply gT; (exact rfl)) | (apply off; (exact rfl); (exact rfl)) | (apply condT; (exact rfl)) | (apply condF; (exact rfl)) | ((first | (apply stp0; (exact rfl); (exact rfl)) | (apply stpN0; (exact rfl)) | apply gT | apply condT); (first | (focus (simp only [go_sem, ↓reduceIte, simprocAttr] <;> rfl)) | exact rfl); (first | (fail_if_success (show okD _ _ _ _ _ _ _ _ _)) | (first | exact okT | exact okN | exact okE rfl))) | (apply calTo0; (exact rfl); (iterate 2 (simp only [go_sem, ↓reduceIte, simprocAttr]; rfl)); (first | exact hv | exact hc); (first | exact okT | exact okN | exact okE rfl)) | refine thenQ_n ?_ | refine thenQ_r ?_ | refine thenQ_e ?_ | refine blockQ_n ?_ | refine blockQ_r ?_ | refine blockQ_e ?_ | (apply blockQ_o; (exact rfl)) | refine Awp.seq ?_ | refine Awp.skip ?_ | refine Awp.block ?_ | refine reg (fun s => false) ?_ | (apply drwE mixed (fun s => false); (kernel_rfl)) | refine fin ?_ | refine Awp.ret ?_ | refine Awp.exit ?_ | ((first | (apply off; (exact rfl)) | apply condF); (first | (focus (simp only [go_sem, ↓reduceIte, simprocAttr] <;> rfl)) | exact rfl)))
  all_goals first | contradiction | (exfalso; omega) | skip
  exact bodyQ_mk (vs := [.rptr [.mp H.length] 0]) (.inr rfl) (by rw [Try.results39]; simp only [go_sem, ↓reduceIte, simprocAttr]) (Vs.refl _ _ _) ⟨rfl, rfl⟩

end Go.Proofs.Ytlhchnnfgppneaa.Ab
namespace Go.Proofs.Ytlhchnnfgppneaa.Ab
open Go Go.RowKit Go.Proofs
set_option linter.unusedSimpArgs false
set_option linter.unusedVariables false
attribute [local irreducible] Awp wpO thenQ blockQ bodyQ ACalls stepA

/-- a round of a loop over a function -/
theorem yieldOf {P : Program} {b : Nat} {f : FuncId} {T : Env} {n : Nat} {ps : Array Tmp} {assign body : Code} {D : Nat} {args : List AV} {H1 : Hp}
    (hbk : H1[b]? = some (.loop .ready none f T n ps assign body D)) (hl : args.length = ps.size) (hps : ∀ p ∈ ps.toList, p < n) (Nx Rq : Hp → Prop)
    (h : Awp P n (some b) assign (setPs T (ps.toList.zip args)) H1 (fun e T1 H1' => e = .normal ∧ H1' = H1 ∧ Awp P n (some b) body T1 (H1.set b (.loop .busy none f T n ps assign body D)) (fun e T2 H2 => H2[b]? = some (.loop .busy none f T n ps assign body D) ∧
      match e with | .normal => Nx (H2.set b (.loop .ready none f T n ps assign body D)) | .ret => Rq (H2.set b .dead) | _ => False))) :
    AYield P b args H1 (fun v1 H2 => (v1 = .val (.bool true) ∧ Nx H2 ∧ H2[b]? = some (.loop .ready none f T n ps assign body D)) ∨ (v1 = .val (.bool false) ∧ H2[b]? = some (.loop .done (some .ret) f T n ps assign body D) ∧ Rq (H2.set b .dead))) := by
  refine AYield.of_body hbk hl hps ?_
  refine Awp.mono h fun e T1 H1' ⟨he, hH, hbody⟩ => ?_
  subst hH
  refine ⟨he, none, f, T, n, ps, assign, body, D, hbk, ?_⟩
  refine Awp.mono hbody fun e T2 H2 ⟨hb2, hpost⟩ => ?_
  have hlt := (List.getElem?_eq_some_iff.1 hb2).1
  refine ⟨.busy, none, f, T, n, ps, assign, body, D, hb2, ?_⟩
  cases e with
  | normal => exact ⟨_, Vs.refl _ _ _, .inl ⟨rfl, hpost, List.getElem?_set_self hlt⟩⟩
  | ret =>
    refine ⟨_, Vs.refl _ _ _, .inr ⟨rfl, List.getElem?_set_self hlt, ?_⟩⟩
    rw [List.set_set]; exact hpost
  | _ => exact hpost.elim

/-- a list of numbers, as a slice that may turn -/
inductive OrdAt (H : Hp) : AV → List Int → Prop
  | nil : OrdAt H nilS []
  | emp : OrdAt H (.rsl [] true) []
  | row {o n : Nat} {v : List Int} (hb : H[o]? = some (.cells (ints v) 2)) (hn : n ≤ v.length) (h0 : 0 < v.length) : OrdAt H (.msl o 0 n) (v.take n)
theorem OrdAt.get {H H' : Hp} {a : AV} {ids : List Int} (h : OrdAt H a ids) (hk : ∀ o n v, a = .msl o 0 n → H[o]? = some (.cells (ints v) 2) → H'[o]? = some (.cells (ints v) 2)) : OrdAt H' a ids := by
  cases h with
  | nil => exact .nil
  | emp => exact .emp
  | row hb hn h0 => exact .row (hk _ _ _ rfl hb) hn h0
theorem OrdAt.grow {H H' : Hp} {a : AV} {ids : List Int} (h : OrdAt H a ids) (hG : Grow H H') : OrdAt H' a ids := h.get fun _ _ _ _ h => hG.get h
theorem OrdAt.set {H : Hp} {a : AV} {ids : List Int} (h : OrdAt H a ids) {s : Nat} {ob : AObj} (hs : H[s]? = some ob) (hne : ∀ v, ob ≠ .cells (ints v) 2) (c : AObj) : OrdAt (H.set s c) a ids := h.get fun o n v _ hb => by
  rw [List.getElem?_set_ne]
  · exact hb
  · rintro rfl; rw [hs] at hb; exact hne v (by simpa using hb)
theorem OrdAt.blk {H : Hp} {a : AV} {ids : List Int} (h : OrdAt H a ids) {o m : Nat} (e : a = .msl o 0 m) : ∃ v, H[o]? = some (.cells (ints v) 2) ∧ m ≤ v.length ∧ 0 < v.length ∧ ids = v.take m := by
  cases h with
  | nil => cases e
  | emp => cases e
  | row hb hn h0 => cases e; exact ⟨_, hb, hn, h0, rfl⟩
theorem b109_ne {cs : List AV} (v : List Int) : AObj.cells [cs] 109 ≠ .cells (ints v) 2 := fun e => by injection e with _ e; cases e
theorem amap_ne {es : List (AV × AV)} (v : List Int) : AObj.amap es ≠ .cells (ints v) 2 := fun e => by cases e
theorem OrdAt.len {H : Hp} {a : AV} {ids : List Int} (h : OrdAt H a ids) (K : Hp) : lenA Try.prog 46 a K = some (iv ids.length) := by
  cases h with
  | nil => unfold lenA; simp only [Try.underlying46]; rfl
  | emp => unfold lenA; simp only [Try.underlying46]; rfl
  | row hb hn h0 =>
    unfold lenA; simp only [Try.underlying46]
    rw [List.length_take, Nat.min_eq_left hn]

set_option maxRecDepth 8000 in
theorem backward_ok (H : Hp) (a : AV) (ids : List Int) (h : OrdAt H a ids) : CallsTo Try.prog 96 [a] H (.fn (.func 115) [.rptr [a] 0]) H := by
  cases h with
  | nil =>
    refine ACalls.of_body Try.func96 rfl (by kernel_rfl) (by rw [Try.ntmps96]; simp) ?_; rw [Try.ntmps96]
    repeat' (first | refine spD (fun _ => ?_) (fun _ => ?_) | refine spF (fun _ => ?_) (fun _ => ?_) | (apply gT; (exact rfl)) | (apply off; (exact rfl); (exact rfl)) | (apply condT; (exact rfl)) | (apply condF; (exact rfl)) | ((first | (apply stp0; (exact rfl); (exact rfl)) | (apply stpN0; (exact rfl)) | apply gT | apply condT | ((first | apply bodyQ_d0 | apply bodyQ_d1 | apply bodyQ_d2 | apply bodyQ_d3 | apply bodyQ_d4); (exact .inr rfl); (rw [Try.results96]))); (first | (focus (simp only [go_sem, ↓reduceIte, simprocAttr] <;> rfl)) | exact rfl); (first | (fail_if_success (show okD _ _ _ _ _ _ _ _ _)) | (first | exact okT | exact okN | exact okE rfl)); (first | (fail_if_success (show Bel _ _)) | (focus first | exact .val _ | (simp [oneOf, Bel_iff_tup, Bel_iff_agg, Bel_iff_rsl, Bel_iff_fn, Bel_iff_rptr, Bel_val]; done)))) | refine thenQ_n ?_ | refine thenQ_r ?_ | refine thenQ_e ?_ | refine blockQ_n ?_ | refine blockQ_r ?_ | refine blockQ_e ?_ | (apply blockQ_o; (exact rfl)) | refine Awp.seq ?_ | refine Awp.skip ?_ | refine Awp.block ?_ | refine reg (fun s => false) ?_ | (apply drwE mixed (fun s => false); (kernel_rfl)) | refine fin ?_ | refine Awp.ret ?_ | refine Awp.exit ?_ | ((first | (apply off; (exact rfl)) | apply condF); (first | (focus (simp only [go_sem, ↓reduceIte, simprocAttr] <;> rfl)) | exact rfl)))
    all_goals first | rfl | contradiction | (exfalso; omega) | skip
  | emp =>
    refine ACalls.of_body Try.func96 rfl (by kernel_rfl) (by rw [Try.ntmps96]; simp) ?_; rw [Try.ntmps96]
    repeat' (first | refine spD (fun _ => ?_) (fun _ => ?_) | refine spF (fun _ => ?_) (fun _ => ?_) | (apply gT; (exact rfl)) | (apply off; (exact rfl); (exact rfl)) | (apply condT; (exact rfl)) | (apply condF; (exact rfl)) | ((first | (apply stp0; (exact rfl); (exact rfl)) | (apply stpN0; (exact rfl)) | apply gT | apply condT | ((first | apply bodyQ_d0 | apply bodyQ_d1 | apply bodyQ_d2 | apply bodyQ_d3 | apply bodyQ_d4); (exact .inr rfl); (rw [Try.results96]))); (first | (focus (simp only [go_sem, ↓reduceIte, simprocAttr] <;> rfl)) | exact rfl); (first | (fail_if_success (show okD _ _ _ _ _ _ _ _ _)) | (first | exact okT | exact okN | exact okE rfl)); (first | (fail_if_success (show Bel _ _)) | (focus first | exact .val _ | (simp [oneOf, Bel_iff_tup, Bel_iff_agg, Bel_iff_rsl, Bel_iff_fn, Bel_iff_rptr, Bel_val]; done)))) | refine thenQ_n ?_ | refine thenQ_r ?_ | refine thenQ_e ?_ | refine blockQ_n ?_ | refine blockQ_r ?_ | refine blockQ_e ?_ | (apply blockQ_o; (exact rfl)) | refine Awp.seq ?_ | refine Awp.skip ?_ | refine Awp.block ?_ | refine reg (fun s => false) ?_ | (apply drwE mixed (fun s => false); (kernel_rfl)) | refine fin ?_ | refine Awp.ret ?_ | refine Awp.exit ?_ | ((first | (apply off; (exact rfl)) | apply condF); (first | (focus (simp only [go_sem, ↓reduceIte, simprocAttr] <;> rfl)) | exact rfl)))
    all_goals first | rfl | contradiction | (exfalso; omega) | skip
  | row hb hn h0 =>
    refine ACalls.of_body Try.func96 rfl (by kernel_rfl) (by rw [Try.ntmps96]; simp) ?_; rw [Try.ntmps96]
    repeat' (first | refine spD (fun _ => ?_) (fun _ => ?_) | refine spF (fun _ => ?_) (fun _ => ?_) | (apply gT; (exact rfl)) | (apply off; (exact rfl); (exact rfl)) | (apply condT; (exact rfl)) | (apply condF; (exact rfl)) | ((first | (apply stp0; (exact rfl); (exact rfl)) | (apply stpN0; (exact rfl)) | apply gT | apply condT); (first | (focus (simp only [go_sem, ↓reduceIte, simprocAttr] <;> rfl)) | exact rfl); (first | (fail_if_success (show okD _ _ _ _ _ _ _ _ _)) | (first | exact okT | exact okN | exact okE rfl))) | refine thenQ_n ?_ | refine thenQ_r ?_ | refine thenQ_e ?_ | refine blockQ_n ?_ | refine blockQ_r ?_ | refine blockQ_e ?_ | (apply blockQ_o; (exact rfl)) | refine Awp.seq ?_ | refine Awp.skip ?_ | refine Awp.block ?_ | refine reg (fun s => false) ?_ | (apply drwE mixed (fun s => false); (kernel_rfl)) | refine fin ?_ | refine Awp.ret ?_ | refine Awp.exit ?_ | ((first | (apply off; (exact rfl)) | apply condF); (first | (focus (simp only [go_sem, ↓reduceIte, simprocAttr] <;> rfl)) | exact rfl)))
    all_goals first | rfl | contradiction | (exfalso; omega) | skip
    exact bodyQ_mk (.inr rfl) (by rw [Try.results96]; simp only [go_sem, ↓reduceIte, simprocAttr]; rfl) (Vs.refl _ _ _) ⟨rfl, rfl⟩

set_option maxRecDepth 8000 in
set_option maxHeartbeats 4000000 in
theorem backLoop {o n : Nat} {v : List Int} (b : Nat) (I : Nat → Hp → Prop) (Stop : Hp → Prop) (hO : ∀ j H, I j H → H[o]? = some (.cells (ints v) 2)) (hn : n ≤ v.length) (hm : n ≤ maxLen)
    (hy : ∀ (j : Nat) (p : Int) (H : Hp), v[j]? = some p → j < n → I (j + 1) H → AYield Try.prog b [iv j, iv p] H (fun v1 H1 => (v1 = bv true ∧ I j H1) ∨ (v1 = bv false ∧ Stop H1))) (H : Hp) (h0 : I n H) :
    ACalls Try.prog 115 [.fn (.yield b) [], .rptr [.msl o 0 n] 0] H fun _ H' => I 0 H' ∨ Stop H' := by
  have hvl := ints_len v
  have wn : IntKind.i64.wrap ((n : Int) - 1) = (n : Int) - 1 := w64 (by omega) (by simp only [maxLen] at hm; omega)
  refine ACalls.of_body Try.func115 rfl (by kernel_rfl) (by rw [Try.ntmps115]; simp) ?_; rw [Try.ntmps115]
  repeat' (first | refine spD (fun _ => ?_) (fun _ => ?_) | refine spF (fun _ => ?_) (fun _ => ?_) | (apply gT; (exact rfl)) | (apply off; (exact rfl); (exact rfl)) | (apply condT; (exact rfl)) | (apply condF; (exact rfl)) | ((first | (apply stp0; (exact rfl); (exact rfl)) | (apply stpN0; (exact rfl)) | apply gT | apply condT | ((first | apply bodyQ_d0 | apply bodyQ_d1 | apply bodyQ_d2 | apply bodyQ_d3 | apply bodyQ_d4); (exact .inr rfl); (rw [Try.results115]))); (first | (focus (simp only [go_sem, ↓reduceIte, simprocAttr, wn] <;> rfl)) | exact rfl); (first | (fail_if_success (show okD _ _ _ _ _ _ _ _ _)) | (first | exact okT | exact okN | exact okE rfl)); (first | (fail_if_success (show Bel _ _)) | (focus first | exact .val _ | (simp [oneOf, Bel_iff_tup, Bel_iff_agg, Bel_iff_rsl, Bel_iff_fn, Bel_iff_rptr, Bel_val]; done)))) | refine thenQ_n ?_ | refine thenQ_r ?_ | refine thenQ_e ?_ | refine blockQ_n ?_ | refine blockQ_r ?_ | refine blockQ_e ?_ | (apply blockQ_o; (exact rfl)) | refine Awp.seq ?_ | refine Awp.skip ?_ | refine Awp.block ?_ | refine reg (fun s => false) ?_ | (apply drwE mixed (fun s => false); (kernel_rfl)) | refine fin ?_ | refine Awp.ret ?_ | refine Awp.exit ?_ | ((first | (apply off; (exact rfl)) | apply condF); (first | (focus (simp only [go_sem, ↓reduceIte, simprocAttr, wn] <;> rfl)) | exact rfl)))
  all_goals first | contradiction | (exfalso; omega) | skip
  refine Awp.loop (ι := Nat) (fun m T' H' => m ≤ n ∧ T' 0 = .fn (.yield b) [] ∧ T' 1 = .rptr [.msl o 0 n] 0 ∧ T' 3 = iv ((m : Int) - 1) ∧ I m H') (fun m => m) n ?_ ?_
  · refine ⟨Nat.le_refl _, ?_, ?_, ?_, h0⟩
    · rfl
    · rfl
    · (first | (focus (simp only [go_sem, ↓reduceIte, simprocAttr]; first | done | rfl)) | rfl)
  rintro m T H' ⟨hmn, t0, t1, t3, hI⟩
  cases m with
  | zero =>
    have hc : ¬ (((0 : Nat) : Int) - 1) ≥ 0 := by omega
    repeat' (first | refine spD (fun _ => ?_) (fun _ => ?_) | refine spF (fun _ => ?_) (fun _ => ?_) | (apply gT; (exact rfl)) | (apply off; (exact rfl); (exact rfl)) | (apply condT; (exact rfl)) | (apply condF; (exact rfl)) | ((first | (apply stp0; (exact rfl); (exact rfl)) | (apply stpN0; (exact rfl)) | apply gT | apply condT | ((first | apply bodyQ_d0 | apply bodyQ_d1 | apply bodyQ_d2 | apply bodyQ_d3 | apply bodyQ_d4); (exact .inr rfl); (rw [Try.results115]))); (first | (focus (simp only [go_sem, ↓reduceIte, simprocAttr, t0, t1, t3, hc] <;> rfl)) | exact rfl); (first | (fail_if_success (show okD _ _ _ _ _ _ _ _ _)) | (first | exact okT | exact okN | exact okE rfl)); (first | (fail_if_success (show Bel _ _)) | (focus first | exact .val _ | (simp [oneOf, Bel_iff_tup, Bel_iff_agg, Bel_iff_rsl, Bel_iff_fn, Bel_iff_rptr, Bel_val]; done)))) | refine thenQ_n ?_ | refine thenQ_r ?_ | refine thenQ_e ?_ | refine blockQ_n ?_ | refine blockQ_r ?_ | refine blockQ_e ?_ | (apply blockQ_o; (exact rfl)) | refine Awp.seq ?_ | refine Awp.skip ?_ | refine Awp.block ?_ | refine reg (fun s => false) ?_ | (apply drwE mixed (fun s => false); (kernel_rfl)) | refine fin ?_ | refine Awp.ret ?_ | refine Awp.exit ?_ | ((first | (apply off; (exact rfl)) | apply condF); (first | (focus (simp only [go_sem, ↓reduceIte, simprocAttr, t0, t1, t3, hc] <;> rfl)) | exact rfl)))
    all_goals first | contradiction | (exfalso; omega) | skip
    exact bodyQ_eq (.inl rfl) (by rw [Try.results115]; simp only [go_sem, ↓reduceIte, simprocAttr]; rfl) (.inl hI)
  | succ j =>
    have e : (((j + 1 : Nat) : Int) - 1) = (j : Int) := by omega
    rw [e] at t3
    have hc : (j : Int) ≥ 0 := by omega
    obtain ⟨p, hp⟩ := nth (l := v) (i := j) (by omega)
    have hpc : (ints v)[j]? = some [iv p] := nthMap (fun x => [iv x]) hp
    have hjn : j < n := by omega
    have hb := hO _ _ hI
    have hcall := hy j p H' hp hjn hI
    repeat' (first | refine spD (fun _ => ?_) (fun _ => ?_) | refine spF (fun _ => ?_) (fun _ => ?_) | (apply gT; (exact rfl)) | (apply off; (exact rfl); (exact rfl)) | (apply condT; (exact rfl)) | (apply condF; (exact rfl)) | ((first | (apply stp0; (exact rfl); (exact rfl)) | (apply stpN0; (exact rfl)) | apply gT | apply condT | ((first | apply bodyQ_d0 | apply bodyQ_d1 | apply bodyQ_d2 | apply bodyQ_d3 | apply bodyQ_d4); (exact .inr rfl); (rw [Try.results115]))); (first | (focus (simp only [go_sem, ↓reduceIte, simprocAttr, t0, t1, t3, hc, hb, hvl, hpc, hjn, Nat.zero_add] <;> rfl)) | exact rfl); (first | (fail_if_success (show okD _ _ _ _ _ _ _ _ _)) | (first | exact okT | exact okN | exact okE rfl)); (first | (fail_if_success (show Bel _ _)) | (focus first | exact .val _ | (simp [oneOf, Bel_iff_tup, Bel_iff_agg, Bel_iff_rsl, Bel_iff_fn, Bel_iff_rptr, Bel_val]; done)))) | refine thenQ_n ?_ | refine thenQ_r ?_ | refine thenQ_e ?_ | refine blockQ_n ?_ | refine blockQ_r ?_ | refine blockQ_e ?_ | (apply blockQ_o; (exact rfl)) | refine Awp.seq ?_ | refine Awp.skip ?_ | refine Awp.block ?_ | refine reg (fun s => false) ?_ | (apply drwE mixed (fun s => false); (kernel_rfl)) | refine fin ?_ | refine Awp.ret ?_ | refine Awp.exit ?_ | ((first | (apply off; (exact rfl)) | apply condF); (first | (focus (simp only [go_sem, ↓reduceIte, simprocAttr, t0, t1, t3, hc, hb, hvl, hpc, hjn, Nat.zero_add] <;> rfl)) | exact rfl)))
    all_goals first | contradiction | (exfalso; omega) | skip
    refine cal rfl rfl ?_ ?_ (show ACallV Try.prog (.fn (.yield b) []) [iv j, iv p] H' _ from hcall) ?_
    · (first | (focus (simp only [go_sem, ↓reduceIte, simprocAttr, t0]; first | done | rfl)) | rfl)
    · (first | (focus (simp only [go_sem, ↓reduceIte, simprocAttr, t3]; first | done | rfl)) | rfl)
    rintro v1 H2 (⟨rfl, hI2⟩ | ⟨rfl, hstop⟩)
    · have w1 : IntKind.i64.wrap ((j : Int) - 1) = (j : Int) - 1 := w64 (by omega) (by simp only [maxLen] at hm; omega)
      repeat' (first | refine spD (fun _ => ?_) (fun _ => ?_) | refine spF (fun _ => ?_) (fun _ => ?_) | (apply gT; (exact rfl)) | (apply off; (exact rfl); (exact rfl)) | (apply condT; (exact rfl)) | (apply condF; (exact rfl)) | ((first | (apply stp0; (exact rfl); (exact rfl)) | (apply stpN0; (exact rfl)) | apply gT | apply condT | ((first | apply bodyQ_d0 | apply bodyQ_d1 | apply bodyQ_d2 | apply bodyQ_d3 | apply bodyQ_d4); (exact .inr rfl); (rw [Try.results115]))); (first | (focus (simp only [go_sem, ↓reduceIte, simprocAttr, t0, t1, t3, w1] <;> rfl)) | exact rfl); (first | (fail_if_success (show okD _ _ _ _ _ _ _ _ _)) | (first | exact okT | exact okN | exact okE rfl)); (first | (fail_if_success (show Bel _ _)) | (focus first | exact .val _ | (simp [oneOf, Bel_iff_tup, Bel_iff_agg, Bel_iff_rsl, Bel_iff_fn, Bel_iff_rptr, Bel_val]; done)))) | refine thenQ_n ?_ | refine thenQ_r ?_ | refine thenQ_e ?_ | refine blockQ_n ?_ | refine blockQ_r ?_ | refine blockQ_e ?_ | (apply blockQ_o; (exact rfl)) | refine Awp.seq ?_ | refine Awp.skip ?_ | refine Awp.block ?_ | refine reg (fun s => false) ?_ | (apply drwE mixed (fun s => false); (kernel_rfl)) | refine fin ?_ | refine Awp.ret ?_ | refine Awp.exit ?_ | ((first | (apply off; (exact rfl)) | apply condF); (first | (focus (simp only [go_sem, ↓reduceIte, simprocAttr, t0, t1, t3, w1] <;> rfl)) | exact rfl)))
      all_goals first | contradiction | (exfalso; omega) | skip
      refine ⟨j, ⟨by omega, ?_, ?_, ?_, hI2⟩, by omega⟩
      · (first | (focus (simp only [go_sem, ↓reduceIte, simprocAttr, t0]; first | done | rfl)) | rfl)
      · (first | (focus (simp only [go_sem, ↓reduceIte, simprocAttr, t1]; first | done | rfl)) | rfl)
      · (first | (focus (simp only [go_sem, ↓reduceIte, simprocAttr, w1]; first | done | rfl)) | rfl)
    · repeat' (first | refine spD (fun _ => ?_) (fun _ => ?_) | refine spF (fun _ => ?_) (fun _ => ?_) | (apply gT; (exact rfl)) | (apply off; (exact rfl); (exact rfl)) | (apply condT; (exact rfl)) | (apply condF; (exact rfl)) | ((first | (apply stp0; (exact rfl); (exact rfl)) | (apply stpN0; (exact rfl)) | apply gT | apply condT | ((first | apply bodyQ_d0 | apply bodyQ_d1 | apply bodyQ_d2 | apply bodyQ_d3 | apply bodyQ_d4); (exact .inr rfl); (rw [Try.results115]))); (first | (focus (simp only [go_sem, ↓reduceIte, simprocAttr, t0, t1, t3] <;> rfl)) | exact rfl); (first | (fail_if_success (show okD _ _ _ _ _ _ _ _ _)) | (first | exact okT | exact okN | exact okE rfl)); (first | (fail_if_success (show Bel _ _)) | (focus first | exact .val _ | (simp [oneOf, Bel_iff_tup, Bel_iff_agg, Bel_iff_rsl, Bel_iff_fn, Bel_iff_rptr, Bel_val]; done)))) | refine thenQ_n ?_ | refine thenQ_r ?_ | refine thenQ_e ?_ | refine blockQ_n ?_ | refine blockQ_r ?_ | refine blockQ_e ?_ | (apply blockQ_o; (exact rfl)) | refine Awp.seq ?_ | refine Awp.skip ?_ | refine Awp.block ?_ | refine reg (fun s => false) ?_ | (apply drwE mixed (fun s => false); (kernel_rfl)) | refine fin ?_ | refine Awp.ret ?_ | refine Awp.exit ?_ | ((first | (apply off; (exact rfl)) | apply condF); (first | (focus (simp only [go_sem, ↓reduceIte, simprocAttr, t0, t1, t3] <;> rfl)) | exact rfl)))
      all_goals first | contradiction | (exfalso; omega) | skip
      exact bodyQ_eq (.inr rfl) (by rw [Try.results115]; simp only [go_sem, ↓reduceIte, simprocAttr]; rfl) (.inr hstop)

set_option maxRecDepth 8000 in
theorem backNil (b : Nat) (H : Hp) : ACalls Try.prog 115 [.fn (.yield b) [], .rptr [nilS] 0] H fun _ H' => H' = H := by
  have wn : IntKind.i64.wrap ((0 : Int) - 1) = -1 := by kernel_rfl
  refine ACalls.of_body Try.func115 rfl (by kernel_rfl) (by rw [Try.ntmps115]; simp) ?_; rw [Try.ntmps115]
  repeat' (first | refine spD (fun _ => ?_) (fun _ => ?_) | refine spF (fun _ => ?_) (fun _ => ?_) | (apply gT; (exact rfl)) | (apply off; (exact rfl); (exact rfl)) | (apply condT; (exact rfl)) | (apply condF; (exact rfl)) | ((first | (apply stp0; (exact rfl); (exact rfl)) | (apply stpN0; (exact rfl)) | apply gT | apply condT | ((first | apply bodyQ_d0 | apply bodyQ_d1 | apply bodyQ_d2 | apply bodyQ_d3 | apply bodyQ_d4); (exact .inr rfl); (rw [Try.results115]))); (first | (focus (simp only [go_sem, ↓reduceIte, simprocAttr, wn] <;> rfl)) | exact rfl); (first | (fail_if_success (show okD _ _ _ _ _ _ _ _ _)) | (first | exact okT | exact okN | exact okE rfl)); (first | (fail_if_success (show Bel _ _)) | (focus first | exact .val _ | (simp [oneOf, Bel_iff_tup, Bel_iff_agg, Bel_iff_rsl, Bel_iff_fn, Bel_iff_rptr, Bel_val]; done)))) | refine thenQ_n ?_ | refine thenQ_r ?_ | refine thenQ_e ?_ | refine blockQ_n ?_ | refine blockQ_r ?_ | refine blockQ_e ?_ | (apply blockQ_o; (exact rfl)) | refine Awp.seq ?_ | refine Awp.skip ?_ | refine Awp.block ?_ | refine reg (fun s => false) ?_ | (apply drwE mixed (fun s => false); (kernel_rfl)) | refine fin ?_ | refine Awp.ret ?_ | refine Awp.exit ?_ | ((first | (apply off; (exact rfl)) | apply condF); (first | (focus (simp only [go_sem, ↓reduceIte, simprocAttr, wn] <;> rfl)) | exact rfl)))
  all_goals first | contradiction | (exfalso; omega) | skip
  refine Awp.loop (ι := Nat) (fun m T' H' => T' 3 = iv (-1) ∧ H' = H) (fun m => m) 0 ?_ ?_
  · refine ⟨?_, rfl⟩
    (first | (focus (simp only [go_sem, ↓reduceIte, simprocAttr]; first | done | rfl)) | rfl)
  rintro m T H' ⟨t3, hH⟩
  have hc : ¬ (-1 : Int) ≥ 0 := by omega
  repeat' (first | refine spD (fun _ => ?_) (fun _ => ?_) | refine spF (fun _ => ?_) (fun _ => ?_) | (apply gT; (exact rfl)) | (apply off; (exact rfl); (exact rfl)) | (apply condT; (exact rfl)) | (apply condF; (exact rfl)) | ((first | (apply stp0; (exact rfl); (exact rfl)) | (apply stpN0; (exact rfl)) | apply gT | apply condT | ((first | apply bodyQ_d0 | apply bodyQ_d1 | apply bodyQ_d2 | apply bodyQ_d3 | apply bodyQ_d4); (exact .inr rfl); (rw [Try.results115]))); (first | (focus (simp only [go_sem, ↓reduceIte, simprocAttr, t3, hc] <;> rfl)) | exact rfl); (first | (fail_if_success (show okD _ _ _ _ _ _ _ _ _)) | (first | exact okT | exact okN | exact okE rfl)); (first | (fail_if_success (show Bel _ _)) | (focus first | exact .val _ | (simp [oneOf, Bel_iff_tup, Bel_iff_agg, Bel_iff_rsl, Bel_iff_fn, Bel_iff_rptr, Bel_val]; done)))) | refine thenQ_n ?_ | refine thenQ_r ?_ | refine thenQ_e ?_ | refine blockQ_n ?_ | refine blockQ_r ?_ | refine blockQ_e ?_ | (apply blockQ_o; (exact rfl)) | refine Awp.seq ?_ | refine Awp.skip ?_ | refine Awp.block ?_ | refine reg (fun s => false) ?_ | (apply drwE mixed (fun s => false); (kernel_rfl)) | refine fin ?_ | refine Awp.ret ?_ | refine Awp.exit ?_ | ((first | (apply off; (exact rfl)) | apply condF); (first | (focus (simp only [go_sem, ↓reduceIte, simprocAttr, t3, hc] <;> rfl)) | exact rfl)))
  all_goals first | contradiction | (exfalso; omega) | skip
  exact bodyQ_eq (.inl rfl) (by rw [Try.results115]; simp only [go_sem, ↓reduceIte, simprocAttr]; rfl) hH

set_option maxRecDepth 8000 in
theorem backEmp (b : Nat) (H : Hp) : ACalls Try.prog 115 [.fn (.yield b) [], .rptr [.rsl [] true] 0] H fun _ H' => H' = H := by
  have wn : IntKind.i64.wrap ((0 : Int) - 1) = -1 := by kernel_rfl
  refine ACalls.of_body Try.func115 rfl (by kernel_rfl) (by rw [Try.ntmps115]; simp) ?_; rw [Try.ntmps115]
  repeat' (first | refine spD (fun _ => ?_) (fun _ => ?_) | refine spF (fun _ => ?_) (fun _ => ?_) | (apply gT; (exact rfl)) | (apply off; (exact rfl); (exact rfl)) | (apply condT; (exact rfl)) | (apply condF; (exact rfl)) | ((first | (apply stp0; (exact rfl); (exact rfl)) | (apply stpN0; (exact rfl)) | apply gT | apply condT | ((first | apply bodyQ_d0 | apply bodyQ_d1 | apply bodyQ_d2 | apply bodyQ_d3 | apply bodyQ_d4); (exact .inr rfl); (rw [Try.results115]))); (first | (focus (simp only [go_sem, ↓reduceIte, simprocAttr, wn] <;> rfl)) | exact rfl); (first | (fail_if_success (show okD _ _ _ _ _ _ _ _ _)) | (first | exact okT | exact okN | exact okE rfl)); (first | (fail_if_success (show Bel _ _)) | (focus first | exact .val _ | (simp [oneOf, Bel_iff_tup, Bel_iff_agg, Bel_iff_rsl, Bel_iff_fn, Bel_iff_rptr, Bel_val]; done)))) | refine thenQ_n ?_ | refine thenQ_r ?_ | refine thenQ_e ?_ | refine blockQ_n ?_ | refine blockQ_r ?_ | refine blockQ_e ?_ | (apply blockQ_o; (exact rfl)) | refine Awp.seq ?_ | refine Awp.skip ?_ | refine Awp.block ?_ | refine reg (fun s => false) ?_ | (apply drwE mixed (fun s => false); (kernel_rfl)) | refine fin ?_ | refine Awp.ret ?_ | refine Awp.exit ?_ | ((first | (apply off; (exact rfl)) | apply condF); (first | (focus (simp only [go_sem, ↓reduceIte, simprocAttr, wn] <;> rfl)) | exact rfl)))
  all_goals first | contradiction | (exfalso; omega) | skip
  refine Awp.loop (ι := Nat) (fun m T' H' => T' 3 = iv (-1) ∧ H' = H) (fun m => m) 0 ?_ ?_
  · refine ⟨?_, rfl⟩
    (first | (focus (simp only [go_sem, ↓reduceIte, simprocAttr]; first | done | rfl)) | rfl)
  rintro m T H' ⟨t3, hH⟩
  have hc : ¬ (-1 : Int) ≥ 0 := by omega
  repeat' (first | refine spD (fun _ => ?_) (fun _ => ?_) | refine spF (fun _ => ?_) (fun _ => ?_) | (apply gT; (exact rfl)) | (apply off; (exact rfl); (exact rfl)) | (apply condT; (exact rfl)) | (apply condF; (exact rfl)) | ((first | (apply stp0; (exact rfl); (exact rfl)) | (apply stpN0; (exact rfl)) | apply gT | apply condT | ((first | apply bodyQ_d0 | apply bodyQ_d1 | apply bodyQ_d2 | apply bodyQ_d3 | apply bodyQ_d4); (exact .inr rfl); (rw [Try.results115]))); (first | (focus (simp only [go_sem, ↓reduceIte, simprocAttr, t3, hc] <;> rfl)) | exact rfl); (first | (fail_if_success (show okD _ _ _ _ _ _ _ _ _)) | (first | exact okT | exact okN | exact okE rfl)); (first | (fail_if_success (show Bel _ _)) | (focus first | exact .val _ | (simp [oneOf, Bel_iff_tup, Bel_iff_agg, Bel_iff_rsl, Bel_iff_fn, Bel_iff_rptr, Bel_val]; done)))) | refine thenQ_n ?_ | refine thenQ_r ?_ | refine thenQ_e ?_ | refine blockQ_n ?_ | refine blockQ_r ?_ | refine blockQ_e ?_ | (apply blockQ_o; (exact rfl)) | refine Awp.seq ?_ | refine Awp.skip ?_ | refine Awp.block ?_ | refine reg (fun s => false) ?_ | (apply drwE mixed (fun s => false); (kernel_rfl)) | refine fin ?_ | refine Awp.ret ?_ | refine Awp.exit ?_ | ((first | (apply off; (exact rfl)) | apply condF); (first | (focus (simp only [go_sem, ↓reduceIte, simprocAttr, t3, hc] <;> rfl)) | exact rfl)))
  all_goals first | contradiction | (exfalso; omega) | skip
  exact bodyQ_eq (.inl rfl) (by rw [Try.results115]; simp only [go_sem, ↓reduceIte, simprocAttr]; rfl) hH

/-- for i, x := range slices.Backward(row) -/
theorem overBack {n : Nat} {T : Env} {Q : Exit → Env → Hp → Prop} {gop : Operand} {x y : Nat} {assign body : Code} {A : Hp} {a : AV} {ids : List Int} (hOA : OrdAt A a ids) (hm : ids.length ≤ maxLen)
    (hT : evA T gop = .fn (.func 115) [.rptr [a] 0]) (hx : x < n) (hy : y < n) (I : Nat → Hp → Prop) (Rq : Hp → Prop) (hO : ∀ o m v j H, a = .msl o 0 m → I j H → H[o]? = some (.cells (ints v) 2) ∨ A[o]? ≠ some (.cells (ints v) 2))
    (h0 : ∀ ob, I ids.length (A ++ [ob]))
    (hb : ∀ (lp : LoopState → AObj) (j : Nat) (p : Int) (H1 : Hp), ids[j]? = some p → I (j + 1) H1 → H1[A.length]? = some (lp .ready) →
      Awp Try.prog n (some A.length) assign (upd (upd T x (iv j)) y (iv p)) H1 (fun e T1 H1' => e = .normal ∧ H1' = H1 ∧ Awp Try.prog n (some A.length) body T1 (H1.set A.length (lp .busy)) (fun e T2 H2 => H2[A.length]? = some (lp .busy) ∧
        match e with | .normal => I j (H2.set A.length (lp .ready)) | .ret => Rq (H2.set A.length .dead) | _ => False)))
    (hn : ∀ H1 ob, I 0 H1 → H1[A.length]? = some ob → Q .normal T (H1.set A.length .dead))
    (hr : ∀ H1, Rq H1 → Q .ret T H1) :
    Awp Try.prog n none (.rangeFunc gop #[x, y] assign body) T A Q := by
  refine Awp.range (k := 115) (cap := [.rptr [a] 0]) hT fun fid D => ?_
  have fin : ∀ H', ((I 0 H' ∧ H'[A.length]? = some (.loop .ready none fid T n #[x, y] assign body D)) ∨ (H'[A.length]? = some (.loop .done (some .ret) fid T n #[x, y] assign body D) ∧ Rq (H'.set A.length .dead))) → rangeQ Try.prog n none T A.length Q (.val undef) H' := by
    rintro H' (⟨h1, h2⟩ | ⟨h1, h2⟩)
    · exact ⟨.ready, none, fid, T, n, _, _, _, D, h2, by simp, hn H' _ h1 h2⟩
    · exact ⟨.done, some .ret, fid, T, n, _, _, _, D, h1, by simp, Awp.ret (hr _ h2)⟩
  cases hOA with
  | nil =>
    refine ACalls.mono (backNil _ _) fun v1 H' hH => ?_
    subst hH
    exact fin _ (.inl ⟨h0 _, get_new _ _⟩)
  | emp =>
    refine ACalls.mono (backEmp _ _) fun v1 H' hH => ?_
    subst hH
    exact fin _ (.inl ⟨h0 _, get_new _ _⟩)
  | row hbk hnv hv0 =>
    rename_i o m v
    have hlen : (v.take m).length = m := by rw [List.length_take]; omega
    rw [hlen] at h0 hm
    refine ACalls.mono (backLoop (o := o) (n := m) (v := v) A.length (fun j H' => I j H' ∧ H'[A.length]? = some (.loop .ready none fid T n #[x, y] assign body D))
      (fun H' => H'[A.length]? = some (.loop .done (some .ret) fid T n #[x, y] assign body D) ∧ Rq (H'.set A.length .dead)) (fun j H' hI => ?_) hnv hm ?_ _ ⟨h0 _, get_new _ _⟩) fun v1 H' h => fin H' h
    · rcases hO o m v j H' rfl hI.1 with h | h
      · exact h
      · exact absurd hbk h
    · rintro j p H1 hp hj ⟨hI, hlp⟩
      have hp' : (v.take m)[j]? = some p := by rw [List.getElem?_take, if_pos hj]; exact hp
      exact yieldOf hlp rfl (by simp; exact ⟨hx, hy⟩) (I j) Rq (hb (fun st => .loop st none fid T n #[x, y] assign body D) j p H1 hp' hI hlp)

end Go.Proofs.Ytlhchnnfgppneaa.Ab
