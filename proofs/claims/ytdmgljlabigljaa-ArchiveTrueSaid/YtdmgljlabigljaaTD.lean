/- Archive: the base: numbers, lists, rows of one's own, heaps that have grown. -/
import Derived.Test.YtdmgljlabigljaaTC
import Derived.Test.YtdmgljlabigljaaKD
namespace Go.Proofs.Ytdmgljlabigljaa.Ab
open Go Go.RowKit Go.Proofs
set_option linter.unusedSimpArgs false
set_option linter.unusedVariables false
attribute [local irreducible] Awp wpO thenQ blockQ bodyQ ACalls stepA

abbrev iv (n : Int) : AV := .val (.int .i64 n)
abbrev bv (b : Bool) : AV := .val (.bool b)
abbrev nilS : AV := .val (.slice none 0 0)
abbrev nilP : AV := .val (.pointer none)
theorem nth {α : Type} {l : List α} {i : Nat} (h : i < l.length) : ∃ a, l[i]? = some a := ⟨_, List.getElem?_eq_getElem h⟩
theorem nthMap {α β : Type} {l : List α} {i : Nat} {a : α} (g : α → β) (h : l[i]? = some a) : (l.map g)[i]? = some (g a) := by rw [List.getElem?_map, h]; rfl
def ints (v : List Int) : List (List AV) := v.map fun x => [iv x]
theorem ints_len (v : List Int) : (ints v).length = v.length := by simp [ints]

theorem stopR {P : Program} {n : Nat} {rd : Option Nat} {id : Nat} {ops : Array Oper} {b : Bool} {T : Env} {H : Hp} {Q : Exit → Env → Hp → Prop} (h : Awp P n rd (.region id ops b) T H Q) : Awp P n rd (.region id ops b) T H Q := h
theorem stopS {P : Program} {n : Nat} {rd : Option Nat} {id : Nat} {ops : Array Oper} {b : Bool} {c : Code} {T : Env} {H : Hp} {Q : Exit → Env → Hp → Prop} (h : Awp P n rd (.seq (.region id ops b) c) T H Q) : Awp P n rd (.seq (.region id ops b) c) T H Q := h

theorem heapOld {H K : Hp} (h : ∀ i, i < H.length → K[i]? = H[i]?) (hl : H.length ≤ K.length) : K = H ++ K.drop H.length := by
  refine List.ext_getElem? fun i => ?_
  by_cases hi : i < H.length
  · rw [h i hi, List.getElem?_append_left hi]
  · rw [List.getElem?_append_right (by omega), List.getElem?_drop]
    congr 1
    omega

/-- a block is turned -/
theorem heldS {B : Hp} {s : Nat} {v : AObj} (h : B[s]? = some v) :
    (∀ c, (B.set s c)[s]? = some c) ∧ (∀ c X, (B.set s c ++ X)[s]? = some c) ∧ (∀ c X Y, (B.set s c ++ X ++ Y)[s]? = some c) ∧ (∀ c X Y Z, (B.set s c ++ X ++ Y ++ Z)[s]? = some c) ∧ (∀ c X Y Z U, (B.set s c ++ X ++ Y ++ Z ++ U)[s]? = some c) ∧
    (∀ c X, (B ++ X).set s c = B.set s c ++ X) ∧ (∀ c X Y, (B ++ X ++ Y).set s c = B.set s c ++ X ++ Y) ∧ (∀ c X Y Z, (B ++ X ++ Y ++ Z).set s c = B.set s c ++ X ++ Y ++ Z) ∧ (∀ c X Y Z U, (B ++ X ++ Y ++ Z ++ U).set s c = B.set s c ++ X ++ Y ++ Z ++ U) ∧
    (∀ c d, (B.set s c).set s d = B.set s d) ∧ (∀ c d X, (B.set s c ++ X).set s d = B.set s d ++ X) ∧ (∀ c d X Y, (B.set s c ++ X ++ Y).set s d = B.set s d ++ X ++ Y) ∧ (∀ c d X Y Z, (B.set s c ++ X ++ Y ++ Z).set s d = B.set s d ++ X ++ Y ++ Z) ∧ (∀ c d X Y Z U, (B.set s c ++ X ++ Y ++ Z ++ U).set s d = B.set s d ++ X ++ Y ++ Z ++ U) := by
  have hlt := (List.getElem?_eq_some_iff.1 h).1
  have h1 : ∀ c, (B.set s c)[s]? = some c := fun c => List.getElem?_set_self hlt
  have hl : ∀ c, (B.set s c).length = B.length := fun c => List.length_set ..
  have h2 : ∀ (B' : Hp) c X, s < B'.length → (B' ++ X).set s c = B'.set s c ++ X := fun B' c X h => List.set_append_left _ _ h
  have h3 : ∀ c d, (B.set s c).set s d = B.set s d := fun c d => List.set_set ..
  refine ⟨h1, fun c X => ?_, fun c X Y => ?_, fun c X Y Z => ?_, fun c X Y Z U => ?_, fun c X => h2 _ _ _ hlt, fun c X Y => ?_, fun c X Y Z => ?_, fun c X Y Z U => ?_, h3, fun c d X => ?_, fun c d X Y => ?_, fun c d X Y Z => ?_, fun c d X Y Z U => ?_⟩
  · exact (held (h1 c)).2.1 _
  · exact (held (h1 c)).2.2.1 _ _
  · exact (held (h1 c)).2.2.2.1 _ _ _
  · exact (held (h1 c)).2.2.2.2.1 _ _ _ _
  · simp only [List.append_assoc]; exact h2 _ _ _ hlt
  · simp only [List.append_assoc]; exact h2 _ _ _ hlt
  · simp only [List.append_assoc]; exact h2 _ _ _ hlt
  · rw [h2 _ _ _ (by rw [hl]; exact hlt), h3]
  · simp only [List.append_assoc]; rw [h2 _ _ _ (by rw [hl]; exact hlt), h3]
  · simp only [List.append_assoc]; rw [h2 _ _ _ (by rw [hl]; exact hlt), h3]
  · simp only [List.append_assoc]; rw [h2 _ _ _ (by rw [hl]; exact hlt), h3]

/-- another block stays -/
theorem heldO {B : Hp} {s s' : Nat} {v : AObj} (hne : s ≠ s') (h : B[s']? = some v) :
    (∀ c, (B.set s c)[s']? = some v) ∧ (∀ c X, (B.set s c ++ X)[s']? = some v) ∧ (∀ c X Y, (B.set s c ++ X ++ Y)[s']? = some v) ∧ (∀ c X Y Z, (B.set s c ++ X ++ Y ++ Z)[s']? = some v) ∧ (∀ c X Y Z U, (B.set s c ++ X ++ Y ++ Z ++ U)[s']? = some v) := by
  have h1 : ∀ c, (B.set s c)[s']? = some v := fun c => by rw [List.getElem?_set_ne hne]; exact h
  exact ⟨h1, fun c X => (held (h1 c)).2.1 _, fun c X Y => (held (h1 c)).2.2.1 _ _, fun c X Y Z => (held (h1 c)).2.2.2.1 _ _ _, fun c X Y Z U => (held (h1 c)).2.2.2.2.1 _ _ _ _⟩

/-- a heap that has grown; its old part is as it was -/
structure Grow (H H' : Hp) : Prop where
  len : H.length ≤ H'.length
  old : ∀ j, j < H.length → H'[j]? = H[j]?

theorem Grow.refl (H : Hp) : Grow H H := ⟨Nat.le_refl _, fun _ _ => rfl⟩
theorem Grow.app {H H' : Hp} (h : Grow H H') (X : Hp) : Grow H (H' ++ X) :=
  ⟨by have := h.len; simp; omega, fun j hj => by rw [List.getElem?_append_left (by have := h.len; omega)]; exact h.old j hj⟩
theorem Grow.set {H H' : Hp} (h : Grow H H') {s : Nat} (hs : H.length ≤ s) (c : AObj) : Grow H (H'.set s c) :=
  ⟨by simpa using h.len, fun j hj => by rw [List.getElem?_set_ne (by omega)]; exact h.old j hj⟩
theorem Grow.trans {H H' H'' : Hp} (h : Grow H H') (k : Grow H' H'') : Grow H H'' :=
  ⟨Nat.le_trans h.len k.len, fun j hj => (k.old j (by have := h.len; omega)).trans (h.old j hj)⟩
theorem Grow.split {H H' : Hp} (h : Grow H H') : ∃ X, H' = H ++ X := ⟨_, heapOld h.old h.len⟩
theorem Grow.get {H H' : Hp} (h : Grow H H') {s : Nat} {v : AObj} (hs : H[s]? = some v) : H'[s]? = some v := by
  rw [h.old s (List.getElem?_eq_some_iff.1 hs).1]; exact hs

section
variable {P : Program} {T : Env} {fn : Func} {H0 X : Hp} {e : Exit}

abbrev Plain (es : List (List AV)) : Prop := ∀ e ∈ es, ∀ a ∈ e, ∃ v, a = .val v

theorem Bel_plain {es : List (List AV)} (h : Plain es) (m : Nat) (ex : Bool) : Bel m (.rsl es ex) := by
  rw [Bel_iff_rsl]
  intro e he a ha
  obtain ⟨v, rfl⟩ := h e he a ha
  exact .val v

theorem Vs.frz {b : Nat} {es : List (List AV)} {t : TypeId} (hb : (H0 ++ X)[b]? = some (.cells es t)) (hl : H0.length ≤ b) (hp : Plain es) : Vs H0 (.msl b 0 es.length) (H0 ++ X) (.rsl es false) H0 := by
  have h1 := Vs.freeze (H0 := H0) (off := 0) (len := es.length) hb (by omega)
  rw [List.drop_zero, List.take_length] at h1
  refine h1.trans ?_
  rw [List.set_append_right _ _ hl]
  exact Vs.drop (Bel_plain hp _ _)

theorem Vs.frz2 {b : Nat} {es : List (List AV)} {t : TypeId} {x : Value} (hb : (H0 ++ X)[b]? = some (.cells es t)) (hl : H0.length ≤ b) (hp : Plain es) : Vs H0 (.tup [.msl b 0 es.length, .val x]) (H0 ++ X) (.tup [.rsl es false, .val x]) H0 := by
  have h1 := Vs.freeze_tup (H0 := H0) (cs := [.msl b 0 es.length, .val x]) (i := 0) (off := 0) (len := es.length) rfl hb (by omega)
  rw [List.drop_zero, List.take_length] at h1
  refine h1.trans ?_
  rw [List.set_append_right _ _ hl]
  refine Vs.drop ?_
  rw [Bel_iff_tup]
  intro c hc
  simp at hc
  rcases hc with rfl | rfl
  · exact Bel_plain hp _ _
  · exact .val _

theorem Vs.nil0 {H : Hp} : Vs H0 nilS H (.rsl [] false) H := by
  intro base w0 g0 g w x _ _ hg S hR
  cases hR
  exact ⟨g, hg, S, .rnil _⟩
theorem Vs.nil2 {H : Hp} {x : AV} : Vs H0 (.tup [nilS, x]) H (.tup [.rsl [] false, x]) H := by
  intro base w0 g0 g w x' _ _ hg S hR
  refine ⟨g, hg, S, ?_⟩
  cases hR with
  | tup hl hr =>
    refine .tup hl fun i c v hc hv => ?_
    match i with
    | 0 =>
      cases hc
      have := hr 0 _ v rfl hv
      cases this
      exact .rnil _
    | i + 1 => exact hr (i + 1) c v hc hv

theorem bodyQ_frz {b len : Nat} {es : List (List AV)} {t : TypeId} (he : e = .normal ∨ e = .ret) (hr : resL P T (H0 ++ X) fn.results.toList = some [.msl b 0 len]) (hb : (H0 ++ X)[b]? = some (.cells es t)) (hl : H0.length ≤ b) (hn : len = es.length) (hp : Plain es) :
    bodyQ P fn H0 (fun v1 H1 => v1 = .rsl es false ∧ H1 = H0) e T (H0 ++ X) := by
  subst hn
  exact bodyQ_mk (vs := [.msl b 0 es.length]) he hr (Vs.frz hb hl hp) ⟨rfl, rfl⟩
/-- the same, of a heap that has grown -/
theorem bodyQ_frzG {H1 : Hp} {b len : Nat} {es : List (List AV)} {t : TypeId} (he : e = .normal ∨ e = .ret) (hr : resL P T H1 fn.results.toList = some [.msl b 0 len]) (hG : Grow H0 H1) (hb : H1[b]? = some (.cells es t)) (hl : H0.length ≤ b) (hn : len = es.length) (hp : Plain es) :
    bodyQ P fn H0 (fun v1 H1 => v1 = .rsl es false ∧ H1 = H0) e T H1 := by
  obtain ⟨X, rfl⟩ := hG.split
  exact bodyQ_frz he hr hb hl hn hp
theorem bodyQ_sameG {H1 : Hp} {vs : List AV} {v : AV} (he : e = .normal ∨ e = .ret) (hr : resL P T H1 fn.results.toList = some vs) (hG : Grow H0 H1) (hb : Bel H0.length (oneOf vs)) (hv : oneOf vs = v) :
    bodyQ P fn H0 (fun v1 H1 => v1 = v ∧ H1 = H0) e T H1 := by
  obtain ⟨X, rfl⟩ := hG.split
  exact bodyQ_d1 he hr hb hv
theorem bodyQ_frz2 {b len : Nat} {es : List (List AV)} {t : TypeId} {x : Value} (he : e = .normal ∨ e = .ret) (hr : resL P T (H0 ++ X) fn.results.toList = some [.msl b 0 len, .val x]) (hb : (H0 ++ X)[b]? = some (.cells es t)) (hl : H0.length ≤ b) (hn : len = es.length) (hp : Plain es) :
    bodyQ P fn H0 (fun v1 H1 => v1 = .tup [.rsl es false, .val x] ∧ H1 = H0) e T (H0 ++ X) := by
  subst hn
  exact bodyQ_mk (vs := [.msl b 0 es.length, .val x]) he hr (Vs.frz2 hb hl hp) ⟨rfl, rfl⟩
theorem bodyQ_frz2G {H1 : Hp} {b len : Nat} {es : List (List AV)} {t : TypeId} {x : Value} (he : e = .normal ∨ e = .ret) (hr : resL P T H1 fn.results.toList = some [.msl b 0 len, .val x]) (hG : Grow H0 H1) (hb : H1[b]? = some (.cells es t)) (hl : H0.length ≤ b) (hn : len = es.length) (hp : Plain es) :
    bodyQ P fn H0 (fun v1 H1 => v1 = .tup [.rsl es false, .val x] ∧ H1 = H0) e T H1 := by
  obtain ⟨X, rfl⟩ := hG.split
  exact bodyQ_frz2 he hr hb hl hn hp
end

theorem plainInts (v : List Int) : Plain (ints v) := by
  intro e he a ha
  obtain ⟨x, _, rfl⟩ := List.mem_map.1 he
  simp at ha; exact ⟨_, ha⟩
theorem plain_set {es : List (List AV)} (h : Plain es) {p : Nat} {e : List AV} (he : ∀ a ∈ e, ∃ v, a = .val v) : Plain (es.set p e) := by
  intro e' he' a ha
  rcases List.mem_or_eq_of_mem_set he' with h1 | rfl
  · exact h e' h1 a ha
  · exact he a ha
theorem BelO_plain {es : List (List AV)} {t : TypeId} (h : ∀ e ∈ es, ∀ a ∈ e, ∃ v, a = .val v) (m : Nat) : BelO m (.cells es t) :=
  .cells fun e he a ha => by obtain ⟨v, rfl⟩ := h e he a ha; exact .val v

/-- a row of one's own, or nothing yet -/
inductive Own (lo : Nat) (t : TypeId) (H : Hp) : AV → List (List AV) → Prop
  | nil : Own lo t H nilS []
  | fix {es : List (List AV)} : Own lo t H (.rsl es true) es
  | row {b : Nat} {es : List (List AV)} (hne : es ≠ []) (hlo : lo ≤ b) (hb : H[b]? = some (.cells es t)) : Own lo t H (.msl b 0 es.length) es

structure OwnR (lo : Nat) (t : TypeId) (k b : Nat) (H : Hp) (a : AV) (es : List (List AV)) : Prop where
  own : Own lo t H a es
  hk : ∀ e ∈ es, e.length = k
  hb : (es.length + 1) * b ≤ 140737488355328

/-- the heap without the row -/
def ownK (H : Hp) (a : AV) : Hp := match a with
  | .msl b _ _ => H.set b .dead
  | _ => H

theorem ownK_len (H : Hp) (a : AV) : (ownK H a).length = H.length := by
  unfold ownK; split <;> simp

section
variable {lo : Nat} {t : TypeId} {H H' : Hp} {a : AV} {es : List (List AV)}

theorem Own.app (h : Own lo t H a es) (X : Hp) : Own lo t (H ++ X) a es := by
  cases h with
  | nil => exact .nil
  | fix => exact .fix
  | row hne hlo hb => exact .row hne hlo ((held hb).2.1 X)
theorem Own.set (h : Own lo t H a es) {s : Nat} {ob c : AObj} (hs : H[s]? = some ob) (hne : ob ≠ .cells es t) : Own lo t (H.set s c) a es := by
  cases h with
  | nil => exact .nil
  | fix => exact .fix
  | row hn hlo hb =>
    refine .row hn hlo ?_
    rw [List.getElem?_set_ne]
    · exact hb
    · rintro rfl; rw [hs] at hb; exact hne (by simpa using hb)
theorem Own.setLow (h : Own lo t H a es) {s : Nat} (hs : s < lo) (c : AObj) : Own lo t (H.set s c) a es := by
  cases h with
  | nil => exact .nil
  | fix => exact .fix
  | row hn hlo hb => exact .row hn hlo (by rw [List.getElem?_set_ne (by omega)]; exact hb)
theorem ownK_low (h : Own lo t H a es) {s : Nat} (hs : s < lo) : (ownK H a)[s]? = H[s]? := by
  cases h with
  | nil => rfl
  | fix => rfl
  | row hn hlo hb => exact List.getElem?_set_ne (by omega)
theorem Own.low (h : Own lo t H a es) {lo' : Nat} (hl : lo' ≤ lo) : Own lo' t H a es := by
  cases h with
  | nil => exact .nil
  | fix => exact .fix
  | row hn hlo hb => exact .row hn (by omega) hb
theorem Own.get (h : Own lo t H a es) (hH : ∀ j ob, lo ≤ j → H[j]? = some ob → H'[j]? = some ob) : Own lo t H' a es := by
  cases h with
  | nil => exact .nil
  | fix => exact .fix
  | row hn hlo hb => exact .row hn hlo (hH _ _ hlo hb)
theorem Own.of (h : Own lo t H a es) (hG : Grow H H') : Own lo t H' a es := h.get fun _ _ _ h => hG.get h
theorem OwnR.of {k b : Nat} (h : OwnR lo t k b H a es) (hG : Grow H H') : OwnR lo t k b H' a es := ⟨h.own.of hG, h.hk, h.hb⟩
theorem OwnR.app {k b : Nat} (h : OwnR lo t k b H a es) (X : Hp) : OwnR lo t k b (H ++ X) a es := ⟨h.own.app X, h.hk, h.hb⟩

theorem Own.next (h : Own lo t H a es) (hl : lo ≤ H.length) (x : List AV) {n m : Nat} (hn : n = H.length) (hm : m = es.length + 1) : Own lo t (ownK H a ++ [.cells (es ++ [x]) t]) (.msl n 0 m) (es ++ [x]) := by
  subst hn; subst hm
  have : es.length + 1 = (es ++ [x]).length := by simp
  rw [this, ← ownK_len H a]
  exact .row (by simp) (by rw [ownK_len]; exact hl) (get_new _ _)

theorem Own.other (h : Own lo t H a es) {j : Nat} {ob : AObj} (hj : H[j]? = some ob) (hne : ob ≠ .cells es t) : (ownK H a)[j]? = some ob := by
  cases h with
  | nil => exact hj
  | fix => exact hj
  | row hn hlo hb =>
    show (H.set _ .dead)[j]? = _
    rw [List.getElem?_set_ne]
    · exact hj
    · rintro rfl; rw [hj] at hb; exact hne (by simpa using hb)

theorem Own.grow {H0 : Hp} (h : Own lo t H a es) (hl : H0.length ≤ lo) (hG : Grow H0 H) : Grow H0 (ownK H a) := by
  cases h with
  | nil => exact hG
  | fix => exact hG
  | row hn hlo hb => exact hG.set (by omega) _

/-- forgetting: the blocks behind -/
theorem ownK_app (h : Own lo t H a es) (X : Hp) : ownK (H ++ X) a = ownK H a ++ X := by
  cases h with
  | nil => rfl
  | fix => rfl
  | row hn hlo hb => exact List.set_append_left _ _ (List.getElem?_eq_some_iff.1 hb).1
end

section
variable {P : Program} {mu : Nat → Bool} {n : Nat} {d : Option Draw} {done : List (Option Tmp)} {rest : List Oper} {T : Env} {H : Hp} {K : Env → Hp → Prop} {ty : TypeId} {pos : String} {aft : Array Edge} {s : Tmp}

/-- an append to a row of one's own -/
theorem stpApp {x y : Operand} {t e : TypeId} {kk b lo : Nat} {a : AV} {es : List (List AV)} {xe : List AV} {ex : Bool} (hd : dstOk n (some s) = true) (hO : OwnR lo e kk b H a es) (hs : evA T x = a) (hx : evA T y = .rsl [xe] ex) (hc : xe.all AV.isCell = true) (hxl : xe.length = kk)
    (hap : ∀ s x H, appendA P t t s x H = appendB e kk b s x H)
    (ho : okD P mu d done.length ⟨some s, .call ⟨.builtin .append, #[x, y], #[t, t]⟩, ty, pos, aft, none⟩ T H (.msl H.length 0 (es.length + 1)) (ownK H a ++ [.cells (es ++ [xe]) e]))
    (k : wpO P mu n d (done ++ [some s]) rest (upd T s (.msl H.length 0 (es.length + 1))) (ownK H a ++ [.cells (es ++ [xe]) e]) K) :
    wpO P mu n d done (⟨some s, .call ⟨.builtin .append, #[x, y], #[t, t]⟩, ty, pos, aft, none⟩ :: rest) T H K := by
  refine stp0 hd rfl ?_ ho k
  simp only [stepA, builtinA, List.map_cons, List.map_nil]
  rw [hap, hs, hx]
  obtain ⟨hO, hk, hb⟩ := hO
  have hsrc : srcA kk (.rsl [xe] ex) H = some [xe] := by
    unfold srcA
    first | rfl | (simp [hxl]; done)
  unfold appendB
  rw [hsrc]
  simp only [List.length_singleton, Nat.one_ne_zero, if_false]
  cases hO with
  | nil =>
    simp only [List.length_nil, Nat.zero_add] at hb ⊢
    rw [if_pos hb]
    rfl
  | fix =>
    simp only []
    rw [if_pos ⟨by rw [List.all_eq_true]; intro e he; simpa using hk e he, hb⟩]
    rfl
  | row hne hlo hbk =>
    have hpos : 0 < es.length := by
      rcases Nat.eq_zero_or_pos es.length with h | h
      · exact absurd (List.eq_nil_of_length_eq_zero h) hne
      · exact h
    simp only [hbk]
    rw [if_pos ⟨by trivial, Nat.le_refl _, hpos, by rw [List.all_eq_true]; intro e he; simpa using hk e he, by simpa using hc, hb⟩, List.take_length]
    rfl
end

section
variable {P : Program} {T : Env} {fn : Func} {H0 H1 : Hp} {e : Exit} {a : AV} {es : List (List AV)} {t : TypeId}

theorem Vs.unfix {H : Hp} {ex : Bool} : Vs H0 (.rsl es ex) H (.rsl es false) H := by
  intro base w0 g0 g w x _ _ hg S hR
  refine ⟨g, hg, S, ?_⟩
  cases hR with
  | rsl vs hn hl hc hm hk hf hr => exact .rsl vs hn hl (fun h => by cases h) hm hk hf hr
  | rnil a => exact .rnil a
theorem Vs.unfix2 {H : Hp} {ex : Bool} {x : AV} : Vs H0 (.tup [.rsl es ex, x]) H (.tup [.rsl es false, x]) H := by
  intro base w0 g0 g w x' h1 h2 hg S hR
  cases hR with
  | tup hl hr =>
    refine ⟨g, hg, S, .tup hl fun i c v hc hv => ?_⟩
    match i with
    | 0 =>
      cases hc
      have := hr 0 _ v rfl hv
      cases this with
      | rsl vs hn hl hc hm hk hf hr => exact .rsl vs hn hl (fun h => by cases h) hm hk hf hr
      | rnil a => exact .rnil a
    | i + 1 => exact hr (i + 1) c v hc hv

theorem bodyQ_own (he : e = .normal ∨ e = .ret) (hr : resL P T H1 fn.results.toList = some [a]) (hG : Grow H0 H1) (hO : Own H0.length t H1 a es) (hp : Plain es) : bodyQ P fn H0 (fun v1 H1 => v1 = .rsl es false ∧ H1 = H0) e T H1 := by
  cases hO with
  | nil =>
    obtain ⟨X, rfl⟩ := hG.split
    exact bodyQ_mk he hr (Vs.nil0.trans (Vs.drop (Bel_plain hp _ _))) ⟨rfl, rfl⟩
  | fix =>
    obtain ⟨X, rfl⟩ := hG.split
    exact bodyQ_mk he hr (Vs.unfix.trans (Vs.drop (Bel_plain hp _ _))) ⟨rfl, rfl⟩
  | row hne hlo hb => exact bodyQ_frzG he hr hG hb hlo rfl hp
theorem bodyQ_own2 {x : Value} (he : e = .normal ∨ e = .ret) (hr : resL P T H1 fn.results.toList = some [a, .val x]) (hG : Grow H0 H1) (hO : Own H0.length t H1 a es) (hp : Plain es) : bodyQ P fn H0 (fun v1 H1 => v1 = .tup [.rsl es false, .val x] ∧ H1 = H0) e T H1 := by
  cases hO with
  | nil =>
    obtain ⟨X, rfl⟩ := hG.split
    refine bodyQ_mk he hr (Vs.nil2.trans (Vs.drop ?_)) ⟨rfl, rfl⟩
    rw [Bel_iff_tup]
    intro c hc
    simp at hc
    rcases hc with rfl | rfl
    · exact Bel_plain hp _ _
    · exact .val _
  | fix =>
    obtain ⟨X, rfl⟩ := hG.split
    refine bodyQ_mk he hr (Vs.unfix2.trans (Vs.drop ?_)) ⟨rfl, rfl⟩
    rw [Bel_iff_tup]
    intro c hc
    simp at hc
    rcases hc with rfl | rfl
    · exact Bel_plain hp _ _
    · exact .val _
  | row hne hlo hb => exact bodyQ_frz2G he hr hG hb hlo rfl hp
end

section
variable {lo : Nat} {t : TypeId} {H : Hp} {a a' : AV} {es : List (List AV)}
theorem Own.keep (h : Own lo t H a es) (hd : ∀ b n m, a' = .msl b 0 n → a ≠ .msl b 0 m) (ha' : ∀ b o n, a' = .msl b o n → o = 0) : Own lo t (ownK H a') a es := by
  cases h with
  | nil => exact .nil
  | fix => exact .fix
  | row hn hlo hb =>
    refine .row hn hlo ?_
    unfold ownK
    split
    · rename_i b o n
      have := ha' b o n rfl
      subst this
      rw [List.getElem?_set_ne]
      · exact hb
      · rintro rfl; exact hd _ n _ rfl rfl
    · exact hb
theorem Own.zero (h : Own lo t H a es) : ∀ b o n, a = .msl b o n → o = 0 := by
  intro b o n e
  cases h <;> cases e
  rfl
theorem Own.lt (h : Own lo t H a es) : ∀ b o n, a = .msl b o n → b < H.length := by
  intro b o n e
  cases h with
  | nil => cases e
  | fix => cases e
  | row hn hlo hb => cases e; exact (List.getElem?_eq_some_iff.1 hb).1
theorem Own.ge (h : Own lo t H a es) : ∀ b o n, a = .msl b o n → lo ≤ b := by
  intro b o n e
  cases h with
  | nil => cases e
  | fix => cases e
  | row hn hlo hb => cases e; exact hlo
end

/-- a row of one's own that never turns any more, at a slot -/
theorem Awp.frzOwn {P : Program} {n : Nat} {rd : Option Nat} {c : Code} {T : Env} {H : Hp} {Q : Exit → Env → Hp → Prop} {lo : Nat} {t : TypeId} {a : AV} {es : List (List AV)} (s : Nat) (hO : Own lo t H a es) (hs : T s = a)
    (h : Awp P n rd c (upd T s (.rsl es false)) (ownK H a) Q) : Awp P n rd c T H Q := by
  cases hO with
  | row hne hlo hb =>
    have := Awp.freeze1 s es.length hs (Nat.le_refl _) hb (P := P) (n := n) (rd := rd) (c := c) (Q := Q)
    rw [List.take_length] at this
    exact this h
  | nil =>
    unfold Awp at *
    intro base w0 g w a r S hTR hr
    refine h base w0 g w a r S ⟨hTR.size, fun s' => ?_⟩ hr
    show R g (if s' = s then _ else _) _
    by_cases e : s' = s
    · subst e
      rw [if_pos rfl]
      have := hTR.slot s'
      rw [hs] at this
      generalize a.tmps.getD s' undef = z at this
      cases this
      exact .rnil _
    · rw [if_neg e]; exact hTR.slot s'
  | fix =>
    unfold Awp at *
    intro base w0 g w a r S hTR hr
    refine h base w0 g w a r S ⟨hTR.size, fun s' => ?_⟩ hr
    show R g (if s' = s then _ else _) _
    by_cases e : s' = s
    · subst e
      rw [if_pos rfl]
      have := hTR.slot s'
      rw [hs] at this
      generalize a.tmps.getD s' undef = z at this
      cases this with
      | rsl vs hn hl hc hm hk hf hr => exact .rsl vs hn hl (fun h => by cases h) hm hk hf hr
      | rnil a => exact .rnil a
    · rw [if_neg e]; exact hTR.slot s'

theorem tmod_nat {x : Int} {n : Nat} (hx : 0 ≤ x) : x.tmod (n : Int) = ((x.toNat % n : Nat) : Int) := by
  rw [Int.tmod_eq_emod_of_nonneg hx]
  obtain ⟨k, rfl⟩ := Int.eq_ofNat_of_zero_le hx
  simp

section
variable {P : Program} {n : Nat} {rd : Option Nat} {T T' : Env} {H : Hp} {Q : Exit → Env → Hp → Prop}

theorem Awp.frzCell {c : Code} {s b len k : Nat} {es : List (List AV)} {e0 : List AV} {t t' : TypeId} (hsb : s ≠ b) (hs : H[s]? = some (.cells [e0] t)) (hk0 : e0[k]? = some (.msl b 0 len)) (hb : H[b]? = some (.cells es t')) (hfit : len ≤ es.length)
    (h : Awp P n rd c T ((H.set b .dead).set s (.cells [e0.set k (.rsl (es.take len) false)] t)) Q) : Awp P n rd c T H Q := by
  unfold Awp at *
  intro base w0 g w a r S hTR hr
  obtain ⟨y, o, h1, _, _⟩ := S.obj b _ hb (by simp)
  obtain ⟨g', h2, h3, h4⟩ := freeze_R S hb h1
  have hTR' : TRel g' n T a.tmps := ⟨hTR.size, fun s => (hTR.slot s).mono h2⟩
  have h5 := h3.retell (s := s) (ob := .cells [e0] t) (ob' := .cells [e0.set k (.rsl (es.take len) false)] t) (by rw [List.getElem?_set_ne (fun e => hsb e.symm)]; exact hs) (by simp) (by
    intro k1 cp o h
    cases h with
    | cells hsz hle hk hr =>
      refine .cells hsz (by simpa using hle) (fun i e he => ?_) (fun i e j c he hc => ?_)
      · cases i with
        | zero =>
          have := hk 0 e0 rfl
          simp at he
          subst he
          simpa using this
        | succ i => simp at he
      · cases i with
        | zero =>
          simp at he
          subst he
          rw [List.getElem?_set] at hc
          split at hc
          · rename_i hkj
            subst hkj
            split at hc
            · cases hc
              obtain ⟨v, v1, v2⟩ := hr 0 e0 _ _ rfl hk0
              refine ⟨v, v1, ?_⟩
              have := (Fz.here (b := b) (es := es) (off := 0) (len := len) (by omega)).rel h1 h2 h4 v v2
              simpa using this
            · cases hc
          · exact hr 0 e0 j c rfl hc
        | succ i => simp at he)
  refine wpIn_mono (h base w0 g' w a r h5 hTR' (hr.mono h2)) fun e a2 w2 ⟨T2, H2, g2, ds, k1, k2, k3, k4, k5, k6⟩ => ?_
  exact ⟨T2, H2, g2, ds, k1, h2.trans k2, k3, k4, k5, by simpa using (Marks.nil g g').append k6 h2 k2⟩
theorem Awp.frzCellNil {c : Code} {s k : Nat} {e0 : List AV} {t : TypeId} (hs : H[s]? = some (.cells [e0] t)) (hk0 : e0[k]? = some nilS)
    (h : Awp P n rd c T (H.set s (.cells [e0.set k (.rsl [] false)] t)) Q) : Awp P n rd c T H Q := by
  unfold Awp at *
  intro base w0 g w a r S hTR hr
  have h5 := S.retell (s := s) (ob := .cells [e0] t) (ob' := .cells [e0.set k (.rsl [] false)] t) hs (by simp) (by
    intro k1 cp o h
    cases h with
    | cells hsz hle hk hr =>
      refine .cells hsz (by simpa using hle) (fun i e he => ?_) (fun i e j c he hc => ?_)
      · cases i with
        | zero =>
          have := hk 0 e0 rfl
          simp at he
          subst he
          simpa using this
        | succ i => simp at he
      · cases i with
        | zero =>
          simp at he
          subst he
          rw [List.getElem?_set] at hc
          split at hc
          · rename_i hkj
            subst hkj
            split at hc
            · cases hc
              obtain ⟨v, v1, v2⟩ := hr 0 e0 _ _ rfl hk0
              refine ⟨v, v1, ?_⟩
              cases v2
              exact .rnil _
            · cases hc
          · exact hr 0 e0 j c rfl hc
        | succ i => simp at he)
  exact h base w0 g w a r h5 hTR hr
end

end Go.Proofs.Ytdmgljlabigljaa.Ab
