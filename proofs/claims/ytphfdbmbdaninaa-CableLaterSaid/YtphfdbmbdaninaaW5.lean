/- Cables: what a function hands back that never turns again; the currents. -/
import Derived.Test.YtphfdbmbdaninaaW4
namespace Go.Proofs.Ytphfdbmbdaninaa.Ab
open Go Go.RowKit Go.Proofs
set_option linter.unusedSimpArgs false
set_option linter.unusedVariables false
attribute [local irreducible] Awp wpO thenQ blockQ bodyQ ACalls stepA

/-- a block is turned -/
theorem heldS {B : Hp} {s : Nat} {v : AObj} (h : B[s]? = some v) :
    (∀ c, (B.set s c)[s]? = some c) ∧ (∀ c X, (B.set s c ++ X)[s]? = some c) ∧ (∀ c X Y, (B.set s c ++ X ++ Y)[s]? = some c) ∧ (∀ c X Y Z, (B.set s c ++ X ++ Y ++ Z)[s]? = some c) ∧ (∀ c X Y Z U, (B.set s c ++ X ++ Y ++ Z ++ U)[s]? = some c) ∧
    (∀ c X, (B ++ X).set s c = B.set s c ++ X) ∧ (∀ c X Y, (B ++ X ++ Y).set s c = B.set s c ++ X ++ Y) ∧ (∀ c X Y Z, (B ++ X ++ Y ++ Z).set s c = B.set s c ++ X ++ Y ++ Z) ∧ (∀ c X Y Z U, (B ++ X ++ Y ++ Z ++ U).set s c = B.set s c ++ X ++ Y ++ Z ++ U) ∧
    (∀ c d, (B.set s c).set s d = B.set s d) ∧ (∀ c d X, (B.set s c ++ X).set s d = B.set s d ++ X) ∧ (∀ c d X Y, (B.set s c ++ X ++ Y).set s d = B.set s d ++ X ++ Y) ∧ (∀ c d X Y Z, (B.set s c ++ X ++ Y ++ Z).set s d = B.set s d ++ X ++ Y ++ Z) ∧ (∀ c d X Y Z U, (B.set s c ++ X ++ Y ++ Z ++ U).set s d = B.set s d ++ X ++ Y ++ Z ++ U) := by
  have hlt := (List.getElem?_eq_some_iff.1 h).1
  have h1 : ∀ c, (B.set s c)[s]? = some c := fun c => List.getElem?_set_self hlt
  have hl : ∀ c, (B.set s c).length = B.length := fun c => List.length_set ..
  have h2 : ∀ (B' : Hp) c X, s < B'.length → (B' ++ X).set s c = B'.set s c ++ X := fun B' c X h => List.set_append_left _ _ h
  have h3 : ∀ c d, (B.set s c).set s d = B.set s d := fun c d => List.set_set ..
  refine ⟨h1, fun c X => ?_, fun c X Y => ?_, fun c X Y Z => ?_, fun c X Y Z U => ?_, fun c X => h2 _ _ _ hlt, fun c X Y => ?_, fun c X Y Z => ?_, fun c X Y Z U => ?_, h3, fun c d X => ?_, fun c d X Y => ?_, fun c d X Y Z => ?_, fun c d X Y Z U => ?_⟩
  · exact (held (h1 c)).2.1 _
  · exact (held (h1 c)).2.2.1 _ _
  · exact (held (h1 c)).2.2.2.1 _ _ _
  · exact (held (h1 c)).2.2.2.2.1 _ _ _ _
  · simp only [List.append_assoc]; exact h2 _ _ _ hlt
  · simp only [List.append_assoc]; exact h2 _ _ _ hlt
  · simp only [List.append_assoc]; exact h2 _ _ _ hlt
  · rw [h2 _ _ _ (by rw [hl]; exact hlt), h3]
  · simp only [List.append_assoc]; rw [h2 _ _ _ (by rw [hl]; exact hlt), h3]
  · simp only [List.append_assoc]; rw [h2 _ _ _ (by rw [hl]; exact hlt), h3]
  · simp only [List.append_assoc]; rw [h2 _ _ _ (by rw [hl]; exact hlt), h3]

/-- another block stays -/
theorem heldO {B : Hp} {s s' : Nat} {v : AObj} (hne : s ≠ s') (h : B[s']? = some v) :
    (∀ c, (B.set s c)[s']? = some v) ∧ (∀ c X, (B.set s c ++ X)[s']? = some v) ∧ (∀ c X Y, (B.set s c ++ X ++ Y)[s']? = some v) ∧ (∀ c X Y Z, (B.set s c ++ X ++ Y ++ Z)[s']? = some v) ∧ (∀ c X Y Z U, (B.set s c ++ X ++ Y ++ Z ++ U)[s']? = some v) := by
  have h1 : ∀ c, (B.set s c)[s']? = some v := fun c => by rw [List.getElem?_set_ne hne]; exact h
  exact ⟨h1, fun c X => (held (h1 c)).2.1 _, fun c X Y => (held (h1 c)).2.2.1 _ _, fun c X Y Z => (held (h1 c)).2.2.2.1 _ _ _, fun c X Y Z U => (held (h1 c)).2.2.2.2.1 _ _ _ _⟩

section
variable {A B X : Hp} {p : Nat} {lp : LoopState → AObj} {Nx Rq : Hp → Prop} {Eq : Nat → Hp → Prop} {T : Env}
theorem roundE_n0 (hL : Lk A B) (h : Nx B) : roundE A p lp Nx Rq Eq .normal T (B ++ [bxO p] ++ [lp .busy]) := by
  have := roundE_n (X := []) (p := p) (lp := lp) (Nx := Nx) (Rq := Rq) (Eq := Eq) (T := T) hL h
  rwa [List.append_nil] at this
theorem roundE_r0 (hL : Lk A B) (h : Rq B) : roundE A p lp Nx Rq Eq .ret T (B ++ [bxO p] ++ [lp .busy]) := by
  have := roundE_r (X := []) (p := p) (lp := lp) (Nx := Nx) (Rq := Rq) (Eq := Eq) (T := T) hL h
  rwa [List.append_nil] at this
theorem roundE_e0 {id : Nat} (hL : Lk A B) (h : Eq id B) : roundE A p lp Nx Rq Eq (.exit id) T (B ++ [bxO p] ++ [lp .busy]) := by
  have := roundE_e (X := []) (p := p) (lp := lp) (Nx := Nx) (Rq := Rq) (Eq := Eq) (T := T) hL h
  rwa [List.append_nil] at this
end

/-- a heap that has grown; its old part is as it was -/
structure Grow (H H' : Hp) : Prop where
  len : H.length ≤ H'.length
  old : ∀ j, j < H.length → H'[j]? = H[j]?

theorem Grow.refl (H : Hp) : Grow H H := ⟨Nat.le_refl _, fun _ _ => rfl⟩
theorem Grow.app {H H' : Hp} (h : Grow H H') (X : Hp) : Grow H (H' ++ X) :=
  ⟨by have := h.len; simp; omega, fun j hj => by rw [List.getElem?_append_left (by have := h.len; omega)]; exact h.old j hj⟩
theorem Grow.set {H H' : Hp} (h : Grow H H') {s : Nat} (hs : H.length ≤ s) (c : AObj) : Grow H (H'.set s c) :=
  ⟨by simpa using h.len, fun j hj => by rw [List.getElem?_set_ne (by omega)]; exact h.old j hj⟩
theorem Grow.trans {H H' H'' : Hp} (h : Grow H H') (k : Grow H' H'') : Grow H H'' :=
  ⟨Nat.le_trans h.len k.len, fun j hj => (k.old j (by have := h.len; omega)).trans (h.old j hj)⟩
theorem Grow.split {H H' : Hp} (h : Grow H H') : ∃ X, H' = H ++ X := ⟨_, heapOld h.old h.len⟩
theorem Grow.get {H H' : Hp} (h : Grow H H') {s : Nat} {v : AObj} (hs : H[s]? = some v) : H'[s]? = some v := by
  rw [h.old s (List.getElem?_eq_some_iff.1 hs).1]; exact hs

section
variable {P : Program} {T : Env} {fn : Func} {H0 X : Hp} {e : Exit}

abbrev Plain (es : List (List AV)) : Prop := ∀ e ∈ es, ∀ a ∈ e, ∃ v, a = .val v

theorem Bel_plain {es : List (List AV)} (h : Plain es) (m : Nat) (ex : Bool) : Bel m (.rsl es ex) := by
  rw [Bel_iff_rsl]
  intro e he a ha
  obtain ⟨v, rfl⟩ := h e he a ha
  exact .val v

theorem Vs.frz {b : Nat} {es : List (List AV)} {t : TypeId} (hb : (H0 ++ X)[b]? = some (.cells es t)) (hl : H0.length ≤ b) (hp : Plain es) : Vs H0 (.msl b 0 es.length) (H0 ++ X) (.rsl es false) H0 := by
  have h1 := Vs.freeze (H0 := H0) (off := 0) (len := es.length) hb (by omega)
  rw [List.drop_zero, List.take_length] at h1
  refine h1.trans ?_
  rw [List.set_append_right _ _ hl]
  exact Vs.drop (Bel_plain hp _ _)

theorem Vs.frz2 {b : Nat} {es : List (List AV)} {t : TypeId} {x : Value} (hb : (H0 ++ X)[b]? = some (.cells es t)) (hl : H0.length ≤ b) (hp : Plain es) : Vs H0 (.tup [.msl b 0 es.length, .val x]) (H0 ++ X) (.tup [.rsl es false, .val x]) H0 := by
  have h1 := Vs.freeze_tup (H0 := H0) (cs := [.msl b 0 es.length, .val x]) (i := 0) (off := 0) (len := es.length) rfl hb (by omega)
  rw [List.drop_zero, List.take_length] at h1
  refine h1.trans ?_
  rw [List.set_append_right _ _ hl]
  refine Vs.drop ?_
  rw [Bel_iff_tup]
  intro c hc
  simp at hc
  rcases hc with rfl | rfl
  · exact Bel_plain hp _ _
  · exact .val _

theorem Vs.nil0 {H : Hp} : Vs H0 nilS H (.rsl [] false) H := by
  intro base w0 g0 g w x _ _ hg S hR
  cases hR
  exact ⟨g, hg, S, .rnil _⟩
theorem Vs.nil2 {H : Hp} {x : AV} : Vs H0 (.tup [nilS, x]) H (.tup [.rsl [] false, x]) H := by
  intro base w0 g0 g w x' _ _ hg S hR
  refine ⟨g, hg, S, ?_⟩
  cases hR with
  | tup hl hr =>
    refine .tup hl fun i c v hc hv => ?_
    match i with
    | 0 =>
      cases hc
      have := hr 0 _ v rfl hv
      cases this
      exact .rnil _
    | i + 1 => exact hr (i + 1) c v hc hv

theorem bodyQ_frz {b len : Nat} {es : List (List AV)} {t : TypeId} (he : e = .normal ∨ e = .ret) (hr : resL P T (H0 ++ X) fn.results.toList = some [.msl b 0 len]) (hb : (H0 ++ X)[b]? = some (.cells es t)) (hl : H0.length ≤ b) (hn : len = es.length) (hp : Plain es) :
    bodyQ P fn H0 (fun v1 H1 => v1 = .rsl es false ∧ H1 = H0) e T (H0 ++ X) := by
  subst hn
  exact bodyQ_mk (vs := [.msl b 0 es.length]) he hr (Vs.frz hb hl hp) ⟨rfl, rfl⟩
/-- the same, of a heap that has grown -/
theorem bodyQ_frzG {H1 : Hp} {b len : Nat} {es : List (List AV)} {t : TypeId} (he : e = .normal ∨ e = .ret) (hr : resL P T H1 fn.results.toList = some [.msl b 0 len]) (hG : Grow H0 H1) (hb : H1[b]? = some (.cells es t)) (hl : H0.length ≤ b) (hn : len = es.length) (hp : Plain es) :
    bodyQ P fn H0 (fun v1 H1 => v1 = .rsl es false ∧ H1 = H0) e T H1 := by
  obtain ⟨X, rfl⟩ := hG.split
  exact bodyQ_frz he hr hb hl hn hp
theorem bodyQ_sameG {H1 : Hp} {vs : List AV} {v : AV} (he : e = .normal ∨ e = .ret) (hr : resL P T H1 fn.results.toList = some vs) (hG : Grow H0 H1) (hb : Bel H0.length (oneOf vs)) (hv : oneOf vs = v) :
    bodyQ P fn H0 (fun v1 H1 => v1 = v ∧ H1 = H0) e T H1 := by
  obtain ⟨X, rfl⟩ := hG.split
  exact bodyQ_d1 he hr hb hv
theorem bodyQ_frz2 {b len : Nat} {es : List (List AV)} {t : TypeId} {x : Value} (he : e = .normal ∨ e = .ret) (hr : resL P T (H0 ++ X) fn.results.toList = some [.msl b 0 len, .val x]) (hb : (H0 ++ X)[b]? = some (.cells es t)) (hl : H0.length ≤ b) (hn : len = es.length) (hp : Plain es) :
    bodyQ P fn H0 (fun v1 H1 => v1 = .tup [.rsl es false, .val x] ∧ H1 = H0) e T (H0 ++ X) := by
  subst hn
  exact bodyQ_mk (vs := [.msl b 0 es.length, .val x]) he hr (Vs.frz2 hb hl hp) ⟨rfl, rfl⟩
theorem bodyQ_frz2G {H1 : Hp} {b len : Nat} {es : List (List AV)} {t : TypeId} {x : Value} (he : e = .normal ∨ e = .ret) (hr : resL P T H1 fn.results.toList = some [.msl b 0 len, .val x]) (hG : Grow H0 H1) (hb : H1[b]? = some (.cells es t)) (hl : H0.length ≤ b) (hn : len = es.length) (hp : Plain es) :
    bodyQ P fn H0 (fun v1 H1 => v1 = .tup [.rsl es false, .val x] ∧ H1 = H0) e T H1 := by
  obtain ⟨X, rfl⟩ := hG.split
  exact bodyQ_frz2 he hr hb hl hn hp
end

theorem plainInts (v : List Int) : Plain (ints v) := by
  intro e he a ha
  obtain ⟨x, _, rfl⟩ := List.mem_map.1 he
  simp at ha; exact ⟨_, ha⟩
theorem plain_set {es : List (List AV)} (h : Plain es) {p : Nat} {e : List AV} (he : ∀ a ∈ e, ∃ v, a = .val v) : Plain (es.set p e) := by
  intro e' he' a ha
  rcases List.mem_or_eq_of_mem_set he' with h1 | rfl
  · exact h e' h1 a ha
  · exact he a ha
theorem plainSp (v : List Sp) : Plain (v.map Sp.cs) := by
  intro e he a ha
  obtain ⟨x, _, rfl⟩ := List.mem_map.1 he
  simp [Sp.cs] at ha
  rcases ha with rfl | rfl <;> exact ⟨_, rfl⟩

/-- what the first m nodes add at the node i -/
def sumT (f : Nat → Int) (l : List Nd) : Nat → Nat → Int
  | 0, _ => 0
  | m + 1, i => sumT f l m i + (if i ∈ pth l m then f m else 0)

theorem sumT_in {f : Nat → Int} {l : List Nd} {B : Int} (hB : 0 ≤ B) (i : Nat) : ∀ m, (∀ k, k < m → 0 ≤ f k ∧ f k ≤ B) → 0 ≤ sumT f l m i ∧ sumT f l m i ≤ B * m
  | 0, _ => by simp [sumT]
  | m + 1, h => by
    have ih := sumT_in hB (l := l) i m fun k hk => h k (by omega)
    have := h m (by omega)
    have e : B * ((m + 1 : Nat) : Int) = B * m + B := by rw [Int.natCast_succ, Int.mul_add, Int.mul_one]
    unfold sumT
    split <;> omega

def lloN (l : List Nd) (k : Nat) : Int := (l.getD k ⟨0,0,0,0,0,0,0,0⟩).llo
def lhiN (l : List Nd) (k : Nat) : Int := (l.getD k ⟨0,0,0,0,0,0,0,0⟩).lhi
theorem lloN_at {l : List Nd} {k : Nat} {a : Nd} (h : l[k]? = some a) : lloN l k = a.llo := by simp [lloN, h]
theorem lhiN_at {l : List Nd} {k : Nat} {a : Nd} (h : l[k]? = some a) : lhiN l k = a.lhi := by simp [lhiN, h]

theorem load_in {c : Cb} (hg : c.good) {k : Nat} (hk : k < c.l.length) : 0 ≤ lloN c.l k ∧ lloN c.l k ≤ lhiN c.l k ∧ lhiN c.l k ≤ 65536 := by
  obtain ⟨a, ha⟩ := nth hk
  have h := (hg.h.2.2.2 k a ha).2.2.1
  have h2 := h.1
  rw [lloN_at ha, lhiN_at ha]
  simp only [Nd.load, Sp.inR, Sp.bad_iff] at h
  omega

/-- the current in the segment i -/
def curS (l : List Nd) (i : Nat) : Sp := ⟨sumT (lloN l) l l.length i, sumT (lhiN l) l l.length i⟩
def curs (l : List Nd) : List Sp := (List.range l.length).map (curS l)

/-- what the first m nodes have added, and the node m at the first j nodes of its path -/
def curP (l : List Nd) (m j i : Nat) : Sp := ⟨sumT (lloN l) l m i + (if i ∈ (pth l m).take j then lloN l m else 0), sumT (lhiN l) l m i + (if i ∈ (pth l m).take j then lhiN l m else 0)⟩
def curR (l : List Nd) (m j : Nat) : List (List AV) := (List.range l.length).map fun i => (curP l m j i).cs

theorem curR_len (l : List Nd) (m j : Nat) : (curR l m j).length = l.length := by simp [curR]
theorem curR_at {l : List Nd} {i : Nat} (h : i < l.length) (m j : Nat) : (curR l m j)[i]? = some (curP l m j i).cs := by simp [curR, h]
theorem curR_next (l : List Nd) (m : Nat) : curR l m (pth l m).length = curR l (m + 1) 0 := by
  unfold curR
  refine List.map_congr_left fun i _ => ?_
  simp [curP, sumT]
theorem curR_end (l : List Nd) : curR l l.length 0 = (curs l).map Sp.cs := by
  simp [curR, curs, curP, curS, Function.comp_def]
theorem curR_zero (l : List Nd) : curR l 0 0 = List.replicate l.length [iv 0, iv 0] := by
  refine List.ext_getElem? fun i => ?_
  by_cases h : i < l.length
  · rw [curR_at h]; simp [h, curP, sumT, Sp.cs]
  · rw [List.getElem?_eq_none (by rw [curR_len]; omega), List.getElem?_eq_none (by simp; omega)]

theorem nodup_take {l : List Nat} (h : l.Nodup) {j p : Nat} (hp : l[j]? = some p) : p ∉ l.take j := by
  intro hm
  obtain ⟨i, hi⟩ := List.getElem?_of_mem hm
  rw [List.getElem?_take] at hi
  split at hi
  · rename_i hlt
    have h1 := (List.getElem?_eq_some_iff.1 hi)
    have h2 := (List.getElem?_eq_some_iff.1 hp)
    have := List.pairwise_iff_getElem.1 h i j h1.1 h2.1 hlt
    exact this (by rw [h1.2, h2.2])
  · cases hi

theorem pth_nodup (l : List Nd) (k : Nat) : (pth l k).Nodup := (pth_dec l k).imp (fun h => by omega)

theorem mem_take_succ {l : List Nat} {j p i : Nat} (hp : l[j]? = some p) : i ∈ l.take (j + 1) ↔ i ∈ l.take j ∨ i = p := by
  rw [List.take_add_one, hp]; simp

theorem curR_step {l : List Nd} {m j p : Nat} (hp : (pth l m)[j]? = some p) (hpn : p < l.length) :
    (curP l m j p).lo = sumT (lloN l) l m p ∧ (curP l m j p).hi = sumT (lhiN l) l m p ∧
    (curR l m j).set p [iv (sumT (lloN l) l m p + lloN l m), iv (sumT (lhiN l) l m p + lhiN l m)] = curR l m (j + 1) := by
  have hno := nodup_take (pth_nodup l m) hp
  refine ⟨by simp [curP, hno], by simp [curP, hno], ?_⟩
  refine List.ext_getElem? fun i => ?_
  by_cases hi : i < l.length
  · rw [curR_at hi, List.getElem?_set]
    by_cases e : p = i
    · subst e
      rw [if_pos rfl, if_pos (by rw [curR_len]; exact hi)]
      simp [curP, Sp.cs, mem_take_succ hp]
    · rw [if_neg e, curR_at hi]
      simp [curP, Sp.cs, mem_take_succ hp, Ne.symm e, show ¬ i = p from fun h => e h.symm]
  · rw [List.getElem?_eq_none (by rw [List.length_set, curR_len]; omega), List.getElem?_eq_none (by rw [curR_len]; omega)]

end Go.Proofs.Ytphfdbmbdaninaa.Ab
