/- Buffers: what a buffer holds; compress. Buffers: where a record goes; slices.Insert of one number. Buffers: what Put does, plain. -/
import Derived.Test.YtlhchnnfgppneaaYH
namespace Go.Proofs.Ytlhchnnfgppneaa.Ab
open Go Go.RowKit Go.Proofs
set_option linter.unusedSimpArgs false
set_option linter.unusedVariables false
attribute [local irreducible] Awp wpO thenQ blockQ bodyQ ACalls stepA

/-- a record in a buffer -/
structure Hd where
  r : Item
  sm : Bool
  sent : Int
def Hd.bytes (h : Hd) : Int := if h.sm then h.r.pk else h.r.size
def loose (h : Hd) : Bool := !h.sm && decide (h.r.pk < h.r.size)
structure Bf where
  cap : Int
  used : Int
  time : Int
  L : List Hd
def idsL (L : List Hd) : List Int := L.map fun h => h.r.id
def findH : List Hd → Int → Option Hd
  | [], _ => none
  | h :: l, x => if x = h.r.id then some h else findH l x
def recF (L : List Hd) (x : Int) : Option AV := (findH L x).map fun h => .agg h.r.cs
def smF (L : List Hd) (x : Int) : Option AV := (findH L x).bind fun h => if h.sm then some (iv 1) else none
def stF (L : List Hd) (x : Int) : Option AV := (findH L x).bind fun h => if h.sent = -1 then none else some (iv h.sent)

theorem findH_at : ∀ {L : List Hd} {j : Nat} {h : Hd}, (idsL L).Nodup → L[j]? = some h → findH L h.r.id = some h
  | x :: l, 0, h, _, hj => by simp at hj; subst hj; simp [findH]
  | x :: l, j + 1, h, hn, hj => by
    have hn' := List.nodup_cons.1 hn
    have hm : h ∈ l := List.mem_of_getElem? (by simpa using hj)
    have hne : h.r.id ≠ x.r.id := fun e => hn'.1 (by show x.r.id ∈ List.map (fun h => h.r.id) l; rw [← e]; exact List.mem_map.2 ⟨h, hm, rfl⟩)
    unfold findH
    rw [if_neg hne]
    exact findH_at hn'.2 (by simpa using hj)
theorem findH_none {x : Int} : ∀ {L : List Hd}, findH L x = none ↔ x ∉ idsL L := by
  intro L
  induction L with
  | nil => simp [findH, idsL]
  | cons h l ih =>
    unfold findH
    split
    · rename_i e; simp [idsL, e]
    · rename_i e
      rw [ih]
      simp [idsL, e]
theorem findH_mem {x : Int} {h : Hd} : ∀ {L : List Hd}, findH L x = some h → h ∈ L ∧ h.r.id = x := by
  intro L
  induction L with
  | nil => intro e; cases e
  | cons y l ih =>
    intro e
    unfold findH at e
    split at e
    · rename_i k; cases e; exact ⟨by simp, k.symm⟩
    · obtain ⟨a, b⟩ := ih e; exact ⟨by simp [a], b⟩
theorem findH_set {h h' : Hd} (he : h'.r = h.r) (y : Int) : ∀ {L : List Hd} {j : Nat}, (idsL L).Nodup → L[j]? = some h → findH (L.set j h') y = if y = h.r.id then some h' else findH L y := by
  intro L
  induction L with
  | nil => intro j _ hj; simp at hj
  | cons x l ih =>
    intro j hn hj
    have hn' := List.nodup_cons.1 hn
    cases j with
    | zero =>
      simp at hj; subst hj
      show (if y = h'.r.id then some h' else findH l y) = _
      rw [he]
      show _ = if y = x.r.id then some h' else (if y = x.r.id then some x else findH l y)
      split <;> rfl
    | succ j =>
      have hm : h ∈ l := List.mem_of_getElem? (by simpa using hj)
      have hne : h.r.id ≠ x.r.id := fun e => hn'.1 (by show x.r.id ∈ List.map (fun h => h.r.id) l; rw [← e]; exact List.mem_map.2 ⟨h, hm, rfl⟩)
      have := ih hn'.2 (by simpa using hj)
      show (if y = x.r.id then some x else findH (l.set j h') y) = if y = h.r.id then some h' else (if y = x.r.id then some x else findH l y)
      rw [this]
      by_cases k : y = x.r.id
      · rw [if_pos k, if_pos k, if_neg (by rw [k]; exact Ne.symm hne)]
      · rw [if_neg k, if_neg k]
theorem idsL_set {L : List Hd} {j : Nat} {h h' : Hd} (hj : L[j]? = some h) (he : h'.r = h.r) : idsL (L.set j h') = idsL L := by
  unfold idsL
  rw [List.map_set]
  refine List.ext_getElem? fun i => ?_
  rw [List.getElem?_set]
  split
  · rename_i e; subst e
    rw [List.length_map, if_pos (List.getElem?_eq_some_iff.1 hj).1, List.getElem?_map, hj, Option.map_some, he]
  · rfl

/-- the least important record that is loose, of the first n -/
def lastL (L : List Hd) : Nat → Option Nat
  | 0 => none
  | j + 1 => match L[j]? with
    | some h => if loose h then some j else lastL L j
    | none => lastL L j
theorem lastL_none {L : List Hd} : ∀ {n : Nat}, (∀ i h, i < n → L[i]? = some h → loose h = false) → lastL L n = none
  | 0, _ => rfl
  | j + 1, k => by
    unfold lastL
    split
    · rename_i h e
      rw [k j h (by omega) e]
      exact lastL_none fun i h hi => k i h (by omega)
    · exact lastL_none fun i h hi => k i h (by omega)
theorem lastL_at {L : List Hd} {j : Nat} {h : Hd} (hj : L[j]? = some h) (hl : loose h = true) : ∀ {n : Nat}, j < n → (∀ i x, j < i → i < n → L[i]? = some x → loose x = false) → lastL L n = some j
  | n + 1, hjn, k => by
    unfold lastL
    by_cases e : j = n
    · subst e; rw [hj]; simp [hl]
    · split
      · rename_i x ex
        rw [k n x (by omega) (by omega) ex]
        exact lastL_at hj hl (by omega) fun i x h1 h2 => k i x h1 (by omega)
      · exact lastL_at hj hl (by omega) fun i x h1 h2 => k i x h1 (by omega)
theorem lastL_spec {L : List Hd} : ∀ {n j : Nat}, lastL L n = some j → j < n ∧ (∃ h, L[j]? = some h ∧ loose h = true) ∧ ∀ i x, j < i → i < n → L[i]? = some x → loose x = false
  | 0, j, h => by cases h
  | n + 1, j, h => by
    unfold lastL at h
    split at h
    · rename_i x ex
      split at h
      · rename_i hl; cases h
        exact ⟨by omega, ⟨x, ex, hl⟩, fun i y h1 h2 => by omega⟩
      · rename_i hl
        obtain ⟨a, b, c⟩ := lastL_spec h
        refine ⟨by omega, b, fun i y h1 h2 hy => ?_⟩
        by_cases e : i = n
        · subst e; rw [ex] at hy; cases hy; simpa using hl
        · exact c i y h1 (by omega) hy
    · rename_i ex
      obtain ⟨a, b, c⟩ := lastL_spec h
      refine ⟨by omega, b, fun i y h1 h2 hy => ?_⟩
      by_cases e : i = n
      · subst e; rw [ex] at hy; cases hy
      · exact c i y h1 (by omega) hy
theorem lastL_no {L : List Hd} : ∀ {n : Nat}, lastL L n = none → ∀ i x, i < n → L[i]? = some x → loose x = false
  | n + 1, h, i, x, hi, hx => by
    unfold lastL at h
    split at h
    · rename_i y ey
      split at h
      · cases h
      · rename_i hl
        by_cases e : i = n
        · subst e; rw [ey] at hx; cases hx; simpa using hl
        · exact lastL_no h i x (by omega) hx
    · rename_i ey
      by_cases e : i = n
      · subst e; rw [ey] at hx; cases hx
      · exact lastL_no h i x (by omega) hx

/-- how a buffer lies in memory -/
structure Rep (H : Hp) (F : Ft) (w : Rw) (S : Bf) : Prop where
  raw : RepW H F w
  cap : w.cap = S.cap
  used : w.used = S.used
  time : w.time = S.time
  ord : OrdAt H w.ord (idsL S.L)
  mr : MapIs w.kr (recF S.L)
  ms : MapIs w.ks (smF S.L)
  mt : MapIs w.kt (stF S.L)
theorem Rep.grow {H H' : Hp} {F : Ft} {w : Rw} {S : Bf} (h : Rep H F w S) (hG : Grow H H') : Rep H' F w S :=
  ⟨h.raw.grow hG, h.cap, h.used, h.time, h.ord.grow hG, h.mr, h.ms, h.mt⟩
theorem Grow.fr {F : Ft} {H H' : Hp} (h : Grow H H') : Fr F H H' := ⟨h.len, fun j hj _ _ _ _ => h.old j hj⟩
theorem MapIs.congr {ks : List (Int × AV)} {f f' : Int → Option AV} (h : MapIs ks f) (e : ∀ y, f' y = f y) : MapIs ks f' := ⟨h.nd, fun y => (h.get y).trans (e y).symm⟩
theorem OrdAt.hi {H D : Hp} {a : AV} {ids ids' : List Int} (hH : OrdAt H a ids) (hD : OrdAt D a ids') {s : Nat} (hs : H.length ≤ s) (c : AObj) : OrdAt (D.set s c) a ids' := hD.get fun o n v e hb => by
  obtain ⟨v0, h0, _⟩ := hH.blk e
  have := (List.getElem?_eq_some_iff.1 h0).1
  rw [List.getElem?_set_ne (by omega)]; exact hb
theorem RepW.lt {H : Hp} {F : Ft} {w : Rw} (h : RepW H F w) : F.b < H.length ∧ F.r < H.length ∧ F.s < H.length ∧ F.t < H.length :=
  ⟨(List.getElem?_eq_some_iff.1 h.hb).1, (List.getElem?_eq_some_iff.1 h.hr).1, (List.getElem?_eq_some_iff.1 h.hs).1, (List.getElem?_eq_some_iff.1 h.ht).1⟩
theorem Rep.hi {H D : Hp} {F : Ft} {w w' : Rw} {S S' : Bf} (hH : Rep H F w S) (hD : Rep D F w' S') (ho : w'.ord = w.ord) {s : Nat} (hs : H.length ≤ s) (c : AObj) : Rep (D.set s c) F w' S' := by
  obtain ⟨l1, l2, l3, l4⟩ := hH.raw.lt
  refine ⟨⟨?_, ?_, ?_, ?_, hD.raw.rs, hD.raw.rt, hD.raw.st⟩, hD.cap, hD.used, hD.time, ?_, hD.mr, hD.ms, hD.mt⟩
  · rw [List.getElem?_set_ne (by omega)]; exact hD.raw.hb
  · rw [List.getElem?_set_ne (by omega)]; exact hD.raw.hr
  · rw [List.getElem?_set_ne (by omega)]; exact hD.raw.hs
  · rw [List.getElem?_set_ne (by omega)]; exact hD.raw.ht
  · rw [ho]; exact OrdAt.hi hH.ord (ho ▸ hD.ord) hs c
theorem Fr.hi {F : Ft} {H D : Hp} (h : Fr F H D) {s : Nat} (hs : H.length ≤ s) (c : AObj) : Fr F H (D.set s c) :=
  ⟨by simpa using h.len, fun j hj a b d e => by rw [List.getElem?_set_ne (by omega)]; exact h.old j hj a b d e⟩
/-- what holds of every buffer -/
structure Good (S : Bf) : Prop where
  nd : (idsL S.L).Nodup
  ok : ∀ h ∈ S.L, h.r.ok
  sum : S.used = (S.L.map Hd.bytes).sum
  len : S.L.length ≤ 257
  cap : 1 ≤ S.cap ∧ S.cap ≤ 16777216
  srt : S.L.Pairwise fun x y => lessR y.r x.r
theorem Good.used {S : Bf} (h : Good S) : 0 ≤ S.used ∧ S.used ≤ 16777216 * S.L.length := by
  rw [h.sum]
  have key : ∀ L : List Hd, (∀ h ∈ L, h.r.ok) → 0 ≤ (L.map Hd.bytes).sum ∧ (L.map Hd.bytes).sum ≤ 16777216 * L.length := by
    intro L
    induction L with
    | nil => simp
    | cons x l ih =>
      intro h
      have h1 := ih fun y hy => h y (by simp [hy])
      have h2 := h x (by simp)
      simp only [Item.ok] at h2
      have e : ((x :: l).map Hd.bytes).sum = x.bytes + (l.map Hd.bytes).sum := by simp
      have e2 : (16777216 : Int) * ((x :: l).length : Nat) = 16777216 * l.length + 16777216 := by rw [List.length_cons, Int.natCast_succ, Int.mul_add, Int.mul_one]
      rw [e, e2]
      have hb : 1 ≤ x.bytes ∧ x.bytes ≤ 16777216 := by unfold Hd.bytes; split <;> omega
      omega
  exact key _ h.ok

/-- the buffer with its record j compressed -/
def Bf.press (S : Bf) (j : Nat) : Bf := match S.L[j]? with
  | some h => { S with used := S.used - (h.r.size - h.r.pk), L := S.L.set j { h with sm := true } }
  | none => S

set_option maxRecDepth 8000 in
set_option maxHeartbeats 4000000 in
theorem compress_ok {H : Hp} {F : Ft} {w : Rw} {S : Bf} (hR : Rep H F w S) (hg : Good S) :
    ACalls Try.prog 60 [.mptr F.b 0 0] H fun v1 H1 => (lastL S.L S.L.length = none ∧ v1 = bv false ∧ Grow H H1) ∨
      ∃ j w', lastL S.L S.L.length = some j ∧ v1 = bv true ∧ Rep H1 F w' (S.press j) ∧ Fr F H H1 ∧ w'.ord = w.ord := by
  have hb := hR.raw.hb
  simp only [Rw.cs] at hb
  have hil : (idsL S.L).length = S.L.length := by simp [idsL]
  have hlm : (idsL S.L).length ≤ maxLen := by have := hg.len; simp only [maxLen]; omega
  have hbb := held hb
  have hbk := backward_ok (H ++ [.cells [[bv false]] 4]) w.ord _ (hR.ord.grow ((Grow.refl _).app _))
  refine ACalls.of_body Try.func60 rfl (by kernel_rfl) (by rw [Try.ntmps60]; simp) ?_; rw [Try.ntmps60]
  repeat' (first | refine spD (fun _ => ?_) (fun _ => ?_) | refine spF (fun _ => ?_) (fun _ => ?_) | (apply gT; (exact rfl)) | (apply off; (exact rfl); (exact rfl)) | (apply condT; (exact rfl)) | (apply condF; (exact rfl)) | ((first | (apply stp0; (exact rfl); (exact rfl)) | (apply stpN0; (exact rfl)) | apply gT | apply condT | ((first | apply bodyQ_d0 | apply bodyQ_d1 | apply bodyQ_d2 | apply bodyQ_d3 | apply bodyQ_d4); (exact .inr rfl); (rw [Try.results60]))); (first | (focus (simp only [go_sem, ↓reduceIte, simprocAttr, hbb] <;> rfl)) | exact rfl); (first | (fail_if_success (show okD _ _ _ _ _ _ _ _ _)) | (first | exact okT | exact okN | exact okE rfl)); (first | (fail_if_success (show Bel _ _)) | (focus first | exact .val _ | (simp [oneOf, Bel_iff_tup, Bel_iff_agg, Bel_iff_rsl, Bel_iff_fn, Bel_iff_rptr, Bel_val]; done)))) | (apply calTo0; (exact rfl); (iterate 2 (simp only [go_sem, ↓reduceIte, simprocAttr, hbb]; rfl)); (first | exact hbk); (first | exact okT | exact okN | exact okE rfl)) | refine thenQ_n ?_ | refine thenQ_r ?_ | refine thenQ_e ?_ | refine blockQ_n ?_ | refine blockQ_r ?_ | refine blockQ_e ?_ | (apply blockQ_o; (exact rfl)) | refine Awp.seq ?_ | refine Awp.skip ?_ | refine Awp.block ?_ | refine reg (fun s => s == 2 || s == 5) ?_ | (apply drwE mixed (fun s => s == 2 || s == 5); (kernel_rfl)) | refine fin ?_ | refine Awp.ret ?_ | refine Awp.exit ?_ | ((first | (apply off; (exact rfl)) | apply condF); (first | (focus (simp only [go_sem, ↓reduceIte, simprocAttr, hbb] <;> rfl)) | exact rfl)))
  all_goals first | contradiction | (exfalso; omega) | skip
  have hG0 : Grow H (H ++ [AObj.cells [[bv false]] 4]) := (Grow.refl _).app _
  have hAl : (H ++ [AObj.cells [[bv false]] 4]).length = H.length + 1 := by simp
  obtain ⟨F1l, F2l⟩ : F.b < H.length ∧ F.s < H.length := ⟨(List.getElem?_eq_some_iff.1 hR.raw.hb).1, (List.getElem?_eq_some_iff.1 hR.raw.hs).1⟩
  generalize hA : H ++ [AObj.cells [[bv false]] 4] = A at *
  have hA0 : A[H.length]? = some (.cells [[bv false]] 4) := by rw [← hA]; exact get_new _ _
  clear hA hbk hbb
  refine Awp.withT (fun T' => T' 1 = .rptr [.mptr F.b 0 0] 0 ∧ T' 2 = .mptr H.length 0 0 ∧ T' 10 = .fn (.func 115) [.rptr [w.ord] 0]) ⟨?_, ?_, ?_⟩ ?_
  · (first | (focus (simp only [go_sem, ↓reduceIte, simprocAttr]; first | done | rfl)) | rfl)
  · (first | (focus (simp only [go_sem, ↓reduceIte, simprocAttr]; first | done | rfl)) | rfl)
  · (first | (focus (simp only [go_sem, ↓reduceIte, simprocAttr]; first | done | rfl)) | rfl)
  rintro T ⟨t1, t2, t10⟩
  refine overBack (a := w.ord) (ids := idsL S.L) (hR.ord.grow hG0) hlm t10 (by decide) (by decide) (fun m H' => Grow H H' ∧ H.length + 1 < H'.length ∧ H'[H.length]? = some (.cells [[bv false]] 4) ∧ ∀ i x, m ≤ i → S.L[i]? = some x → loose x = false)
    (fun H1 => ∃ j w', lastL S.L S.L.length = some j ∧ Rep H1 F w' (S.press j) ∧ Fr F H H1 ∧ w'.ord = w.ord ∧ H1[H.length]? = some (.cells [[bv true]] 4)) ?_ ?_ ?_ ?_ ?_
  · rintro o m v j H' he ⟨hG, _⟩
    obtain ⟨v0, h0, _⟩ := hR.ord.blk he
    rcases Classical.em (A[o]? = some (.cells (ints v) 2)) with h | h
    · left; rw [hG.get h0, ← hG0.get h0]; exact h
    · exact .inr h
  · intro ob
    refine ⟨hG0.app _, by simp [hAl], (held hA0).2.1 _, fun i x hi hx => ?_⟩
    rw [hil] at hi
    have := (List.getElem?_eq_some_iff.1 hx).1
    omega
  · rintro lp j p H1 hp ⟨hG, hl1, hc, hno⟩ hlp
    obtain ⟨h, hj, hid⟩ : ∃ h, S.L[j]? = some h ∧ h.r.id = p := by
      unfold idsL at hp
      rw [List.getElem?_map] at hp
      cases e : S.L[j]? with
      | none => rw [e] at hp; cases hp
      | some h => rw [e] at hp; cases hp; exact ⟨h, rfl, rfl⟩
    have hjl : j < S.L.length := (List.getElem?_eq_some_iff.1 hj).1
    have hfh := findH_at hg.nd hj
    have hrec : getM w.kr p = some (.agg h.r.cs) := by rw [hR.mr.get, ← hid]; unfold recF; rw [hfh]; rfl
    have hsm : (getM w.ks p).getD (iv 0) = iv (if h.sm then 1 else 0) := by rw [hR.ms.get, ← hid]; unfold smF; rw [hfh]; cases e : h.sm <;> simp [e]
    repeat' (first | refine spD (fun _ => ?_) (fun _ => ?_) | refine spF (fun _ => ?_) (fun _ => ?_) | (apply gT; (exact rfl)) | (apply off; (exact rfl); (exact rfl)) | (apply condT; (exact rfl)) | (apply condF; (exact rfl)) | ((first | (apply stp0; (exact rfl); (exact rfl)) | (apply stpN0; (exact rfl)) | apply gT | apply condT | ((first | apply bodyQ_d0 | apply bodyQ_d1 | apply bodyQ_d2 | apply bodyQ_d3 | apply bodyQ_d4); (exact .inr rfl); (rw [Try.results60]))); (first | (focus (simp only [go_sem, ↓reduceIte, simprocAttr, t1, t2, t10] <;> rfl)) | exact rfl); (first | (fail_if_success (show okD _ _ _ _ _ _ _ _ _)) | (first | exact okT | exact okN | exact okE rfl)); (first | (fail_if_success (show Bel _ _)) | (focus first | exact .val _ | (simp [oneOf, Bel_iff_tup, Bel_iff_agg, Bel_iff_rsl, Bel_iff_fn, Bel_iff_rptr, Bel_val]; done)))) | refine thenQ_n ?_ | refine thenQ_r ?_ | refine thenQ_e ?_ | refine blockQ_n ?_ | refine blockQ_r ?_ | refine blockQ_e ?_ | (apply blockQ_o; (exact rfl)) | refine Awp.seq ?_ | refine Awp.skip ?_ | refine Awp.block ?_ | refine reg (fun s => s == 2 || s == 5) ?_ | (apply drwE mixed (fun s => s == 2 || s == 5); (kernel_rfl)) | refine fin ?_ | refine Awp.ret ?_ | refine Awp.exit ?_ | ((first | (apply off; (exact rfl)) | apply condF); (first | (focus (simp only [go_sem, ↓reduceIte, simprocAttr, t1, t2, t10] <;> rfl)) | exact rfl)))
    refine ⟨rfl, rfl, ?_⟩
    have hgs : Grow H (H1.set A.length (lp .busy)) := hG.set (by omega) _
    have hbs := hgs.get hR.raw.hb
    simp only [Rw.cs] at hbs
    have hl : A.length = H.length + 1 := hAl
    rw [hl] at hlp hgs hbs ⊢
    have hc2 : (H1.set (H.length + 1) (lp .busy))[H.length]? = some (.cells [[bv false]] 4) := by rw [List.getElem?_set_ne (by omega)]; exact hc
    have hlb : (H1.set (H.length + 1) (lp .busy))[H.length + 1]? = some (lp .busy) := List.getElem?_set_self hl1
    generalize H1.set (H.length + 1) (lp .busy) = B at *
    have l1 := (mT40.look0 (hgs.get hR.raw.hr) p).2
    rw [hrec] at l1
    simp only [Option.getD_some, Item.cs] at l1
    have l2 : ∀ X, lookA Try.prog 106 (.mp F.s) (iv p) false (B ++ X) = some (iv (if h.sm then 1 else 0)) := fun X => by rw [(mT106.look0 ((hgs.app X).get hR.raw.hs) p).2, hsm]
    have hbs2 := held hbs
    repeat' ((fail_if_success (apply stopR (id := 4))); (fail_if_success (apply stopS (id := 4))); first | refine spD (fun _ => ?_) (fun _ => ?_) | refine spF (fun _ => ?_) (fun _ => ?_) | (apply gT; (exact rfl)) | (apply off; (exact rfl); (exact rfl)) | (apply condT; (exact rfl)) | (apply condF; (exact rfl)) | ((first | (apply stp0; (exact rfl); (exact rfl)) | (apply stpN0; (exact rfl)) | apply gT | apply condT | ((first | apply bodyQ_d0 | apply bodyQ_d1 | apply bodyQ_d2 | apply bodyQ_d3 | apply bodyQ_d4); (exact .inr rfl); (rw [Try.results60]))); (first | (focus (simp only [go_sem, ↓reduceIte, simprocAttr, t1, t2, t10, hbs, hbs2, l1, l2] <;> rfl)) | exact rfl); (first | (fail_if_success (show okD _ _ _ _ _ _ _ _ _)) | (first | exact okT | exact okN | exact okE rfl)); (first | (fail_if_success (show Bel _ _)) | (focus first | exact .val _ | (simp [oneOf, Bel_iff_tup, Bel_iff_agg, Bel_iff_rsl, Bel_iff_fn, Bel_iff_rptr, Bel_val]; done)))) | refine thenQ_n ?_ | refine thenQ_r ?_ | refine thenQ_e ?_ | refine blockQ_n ?_ | refine blockQ_r ?_ | refine blockQ_e ?_ | (apply blockQ_o; (exact rfl)) | refine Awp.seq ?_ | refine Awp.skip ?_ | refine Awp.block ?_ | refine reg (fun s => s == 2 || s == 5) ?_ | (apply drwE mixed (fun s => s == 2 || s == 5); (kernel_rfl)) | refine fin ?_ | refine Awp.ret ?_ | refine Awp.exit ?_ | ((first | (apply off; (exact rfl)) | apply condF); (first | (focus (simp only [go_sem, ↓reduceIte, simprocAttr, t1, t2, t10, hbs, hbs2, l1, l2] <;> rfl)) | exact rfl)))
    all_goals first | contradiction | (exfalso; omega) | skip
    refine Awp.withT (fun T' => T' 1 = .rptr [.mptr F.b 0 0] 0 ∧ T' 2 = .mptr H.length 0 0 ∧ T' 4 = iv p ∧ T' 5 = .mptr B.length 0 0) ⟨?_, ?_, ?_, ?_⟩ ?_
    · (first | (focus (simp only [go_sem, ↓reduceIte, simprocAttr, t1]; first | done | rfl)) | rfl)
    · (first | (focus (simp only [go_sem, ↓reduceIte, simprocAttr, t2]; first | done | rfl)) | rfl)
    · (first | (focus (simp only [go_sem, ↓reduceIte, simprocAttr]; first | done | rfl)) | rfl)
    · (first | (focus (simp only [go_sem, ↓reduceIte, simprocAttr]; first | done | rfl)) | rfl)
    clear t1 t2 t10 T hbs2 hbs l1
    rintro T ⟨t1, t2, t4, t5⟩
    have l3 := l2 [.cells [[iv h.r.id, iv h.r.cls, iv h.r.made, iv h.r.size, iv h.r.pk]] 23]
    have hgC := hgs.app [.cells [[iv h.r.id, iv h.r.cls, iv h.r.made, iv h.r.size, iv h.r.pk]] 23]
    have hcC := (held hc2).2.1 [.cells [[iv h.r.id, iv h.r.cls, iv h.r.made, iv h.r.size, iv h.r.pk]] 23]
    have hlC := (held hlb).2.1 [.cells [[iv h.r.id, iv h.r.cls, iv h.r.made, iv h.r.size, iv h.r.pk]] 23]
    have h5C := get_new B (.cells [[iv h.r.id, iv h.r.cls, iv h.r.made, iv h.r.size, iv h.r.pk]] 23)
    have hCl : (B ++ [AObj.cells [[iv h.r.id, iv h.r.cls, iv h.r.made, iv h.r.size, iv h.r.pk]] 23]).length = B.length + 1 := by simp
    have hBl := (List.getElem?_eq_some_iff.1 hlb).1
    generalize B ++ [AObj.cells [[iv h.r.id, iv h.r.cls, iv h.r.made, iv h.r.size, iv h.r.pk]] 23] = C at *
    have hRC := hR.raw.grow hgC
    have hbC := hRC.hb
    simp only [Rw.cs] at hbC
    cases hsm2 : h.sm with
    | true =>
      rw [hsm2, if_pos rfl] at l3
      have n1 : ¬ (1 : Int) = 0 := by omega
      repeat' (first | refine spD (fun _ => ?_) (fun _ => ?_) | refine spF (fun _ => ?_) (fun _ => ?_) | (apply gT; (exact rfl)) | (apply off; (exact rfl); (exact rfl)) | (apply condT; (exact rfl)) | (apply condF; (exact rfl)) | ((first | (apply stp0; (exact rfl); (exact rfl)) | (apply stpN0; (exact rfl)) | apply gT | apply condT | ((first | apply bodyQ_d0 | apply bodyQ_d1 | apply bodyQ_d2 | apply bodyQ_d3 | apply bodyQ_d4); (exact .inr rfl); (rw [Try.results60]))); (first | (focus (simp only [go_sem, ↓reduceIte, simprocAttr, t1, t2, t4, t5, hbC, l3, n1] <;> rfl)) | exact rfl); (first | (fail_if_success (show okD _ _ _ _ _ _ _ _ _)) | (first | exact okT | exact okN | exact okE rfl)); (first | (fail_if_success (show Bel _ _)) | (focus first | exact .val _ | (simp [oneOf, Bel_iff_tup, Bel_iff_agg, Bel_iff_rsl, Bel_iff_fn, Bel_iff_rptr, Bel_val]; done)))) | refine thenQ_n ?_ | refine thenQ_r ?_ | refine thenQ_e ?_ | refine blockQ_n ?_ | refine blockQ_r ?_ | refine blockQ_e ?_ | (apply blockQ_o; (exact rfl)) | refine Awp.seq ?_ | refine Awp.skip ?_ | refine Awp.block ?_ | refine reg (fun s => s == 2 || s == 5) ?_ | (apply drwE mixed (fun s => s == 2 || s == 5); (kernel_rfl)) | refine fin ?_ | refine Awp.ret ?_ | refine Awp.exit ?_ | ((first | (apply off; (exact rfl)) | apply condF); (first | (focus (simp only [go_sem, ↓reduceIte, simprocAttr, t1, t2, t4, t5, hbC, l3, n1] <;> rfl)) | exact rfl)))
      all_goals first | contradiction | (exfalso; omega) | skip
      refine ⟨hlC, hgC.set (by omega) _, by simp; omega, by rw [List.getElem?_set_ne (by omega)]; exact hcC, fun i x hi hx => ?_⟩
      by_cases e : i = j
      · subst e; rw [hj] at hx; cases hx; simp [loose, hsm2]
      · exact hno i x (by omega) hx
    | false =>
      rw [hsm2, if_neg (by simp)] at l3
      by_cases hp2 : h.r.pk < h.r.size
      · have hlo : loose h = true := by simp [loose, hsm2, hp2]
        have hla := lastL_at hj hlo hjl fun i x hi _ hx => hno i x (by omega) hx
        have hok := hg.ok h (List.mem_of_getElem? hj)
        simp only [Item.ok] at hok
        have hus := hg.used
        have hlen := hg.len
        have w1 : IntKind.i64.wrap (h.r.size - h.r.pk) = h.r.size - h.r.pk := w64 (by omega) (by omega)
        have w2 : IntKind.i64.wrap (w.used - (h.r.size - h.r.pk)) = w.used - (h.r.size - h.r.pk) := by rw [hR.used]; exact w64 (by omega) (by omega)
        have u1 := mT106.upd hRC.hs p (iv 1)
        obtain ⟨R1, F1⟩ := hRC.setS (setM p (iv 1) w.ks)
        obtain ⟨R2, F2⟩ := R1.setB (w.used - (h.r.size - h.r.pk)) w.time w.ord
        have b1 := R1.hb
        have b2 := R2.hb
        simp only [Rw.cs] at b1 b2
        have n5 : F.s ≠ B.length := by have := hgs.len; omega
        have n6 : F.b ≠ B.length := by have := hgs.len; omega
        have h5D := (heldO n5 h5C).1 (.amap (ents (setM p (iv 1) w.ks)))
        have hcD := (heldO (show F.b ≠ H.length by omega) ((heldO (show F.s ≠ H.length by omega) hcC).1 (.amap (ents (setM p (iv 1) w.ks))))).1 (.cells [[iv w.cap, iv (w.used - (h.r.size - h.r.pk)), iv w.time, w.ord, .mp F.r, .mp F.s, .mp F.t]] 109)
        have hlD := (heldO (show F.b ≠ H.length + 1 by omega) ((heldO (show F.s ≠ H.length + 1 by omega) hlC).1 (.amap (ents (setM p (iv 1) w.ks))))).1 (.cells [[iv w.cap, iv (w.used - (h.r.size - h.r.pk)), iv w.time, w.ord, .mp F.r, .mp F.s, .mp F.t]] 109)
        repeat' ((fail_if_success (apply stopR (id := 7))); (fail_if_success (apply stopS (id := 7))); first | refine spD (fun _ => ?_) (fun _ => ?_) | refine spF (fun _ => ?_) (fun _ => ?_) | (apply gT; (exact rfl)) | (apply off; (exact rfl); (exact rfl)) | (apply condT; (exact rfl)) | (apply condF; (exact rfl)) | ((first | (apply stp0; (exact rfl); (exact rfl)) | (apply stpN0; (exact rfl)) | apply gT | apply condT | ((first | apply bodyQ_d0 | apply bodyQ_d1 | apply bodyQ_d2 | apply bodyQ_d3 | apply bodyQ_d4); (exact .inr rfl); (rw [Try.results60]))); (first | (focus (simp only [go_sem, ↓reduceIte, simprocAttr, t1, t2, t4, t5, hbC, l3, hp2, h5C, u1, b1, h5D, w1, w2] <;> rfl)) | exact rfl); (first | (fail_if_success (show okD _ _ _ _ _ _ _ _ _)) | (first | exact okT | exact okN | exact okE rfl)); (first | (fail_if_success (show Bel _ _)) | (focus first | exact .val _ | (simp [oneOf, Bel_iff_tup, Bel_iff_agg, Bel_iff_rsl, Bel_iff_fn, Bel_iff_rptr, Bel_val]; done)))) | refine thenQ_n ?_ | refine thenQ_r ?_ | refine thenQ_e ?_ | refine blockQ_n ?_ | refine blockQ_r ?_ | refine blockQ_e ?_ | (apply blockQ_o; (exact rfl)) | refine Awp.seq ?_ | refine Awp.skip ?_ | refine Awp.block ?_ | refine reg (fun s => s == 2 || s == 5) ?_ | (apply drwE mixed (fun s => s == 2 || s == 5); (kernel_rfl)) | refine fin ?_ | refine Awp.ret ?_ | refine Awp.exit ?_ | ((first | (apply off; (exact rfl)) | apply condF); (first | (focus (simp only [go_sem, ↓reduceIte, simprocAttr, t1, t2, t4, t5, hbC, l3, hp2, h5C, u1, b1, h5D, w1, w2] <;> rfl)) | exact rfl)))
        all_goals first | contradiction | (exfalso; omega) | skip
        have hpr : S.press j = { S with used := S.used - (h.r.size - h.r.pk), L := S.L.set j { h with sm := true } } := by unfold Bf.press; rw [hj]
        have q1 : OrdAt ((C.set F.s (.amap (ents (setM p (iv 1) w.ks)))).set F.b (.cells [[iv w.cap, iv (w.used - (h.r.size - h.r.pk)), iv w.time, w.ord, .mp F.r, .mp F.s, .mp F.t]] 109)) w.ord (idsL (S.press j).L) := by
          rw [hpr]
          show OrdAt _ w.ord (idsL (S.L.set j { h with sm := true }))
          rw [idsL_set (h' := { h with sm := true }) hj rfl]
          exact ((hR.ord.grow hgC).set hRC.hs (fun v => amap_ne v) _).set R1.hb (fun v => b109_ne v) _
        have q2 : MapIs w.kr (recF (S.press j).L) := hR.mr.congr fun y => by
          rw [hpr]
          show recF (S.L.set j { h with sm := true }) y = recF S.L y
          unfold recF; rw [findH_set (h := h) (h' := { h with sm := true }) rfl y hg.nd hj]
          split
          · rename_i e; rw [e, hfh]; rfl
          · rfl
        have q3 : MapIs (setM p (iv 1) w.ks) (smF (S.press j).L) := hR.ms.set p (iv 1) fun y => by
          rw [hpr]
          show smF (S.L.set j { h with sm := true }) y = _
          unfold smF; rw [findH_set (h := h) (h' := { h with sm := true }) rfl y hg.nd hj, hid]
          split
          · rfl
          · rfl
        have q4 : MapIs w.kt (stF (S.press j).L) := hR.mt.congr fun y => by
          rw [hpr]
          show stF (S.L.set j { h with sm := true }) y = stF S.L y
          unfold stF; rw [findH_set (h := h) (h' := { h with sm := true }) rfl y hg.nd hj]
          split
          · rename_i e; rw [e, hfh]; rfl
          · rfl
        have hRD := Rep.mk (S := S.press j) R2 (by rw [hpr]; exact hR.cap) (by rw [hpr]; show w.used - _ = S.used - _; rw [hR.used]) (by rw [hpr]; exact hR.time) q1 q2 q3 q4
        have hFD := (hgC.fr (F := F)).trans (F1.trans F2)
        clear R1 R2 F1 F2 u1 b1 b2 h5D
        repeat' (first | refine spD (fun _ => ?_) (fun _ => ?_) | refine spF (fun _ => ?_) (fun _ => ?_) | (apply gT; (exact rfl)) | (apply off; (exact rfl); (exact rfl)) | (apply condT; (exact rfl)) | (apply condF; (exact rfl)) | ((first | (apply stp0; (exact rfl); (exact rfl)) | (apply stpN0; (exact rfl)) | apply gT | apply condT | ((first | apply bodyQ_d0 | apply bodyQ_d1 | apply bodyQ_d2 | apply bodyQ_d3 | apply bodyQ_d4); (exact .inr rfl); (rw [Try.results60]))); (first | (focus (simp only [go_sem, ↓reduceIte, simprocAttr, t1, t2, t4, t5, hcD] <;> rfl)) | exact rfl); (first | (fail_if_success (show okD _ _ _ _ _ _ _ _ _)) | (first | exact okT | exact okN | exact okE rfl)); (first | (fail_if_success (show Bel _ _)) | (focus first | exact .val _ | (simp [oneOf, Bel_iff_tup, Bel_iff_agg, Bel_iff_rsl, Bel_iff_fn, Bel_iff_rptr, Bel_val]; done)))) | refine thenQ_n ?_ | refine thenQ_r ?_ | refine thenQ_e ?_ | refine blockQ_n ?_ | refine blockQ_r ?_ | refine blockQ_e ?_ | (apply blockQ_o; (exact rfl)) | refine Awp.seq ?_ | refine Awp.skip ?_ | refine Awp.block ?_ | refine reg (fun s => s == 2 || s == 5) ?_ | (apply drwE mixed (fun s => s == 2 || s == 5); (kernel_rfl)) | refine fin ?_ | refine Awp.ret ?_ | refine Awp.exit ?_ | ((first | (apply off; (exact rfl)) | apply condF); (first | (focus (simp only [go_sem, ↓reduceIte, simprocAttr, t1, t2, t4, t5, hcD] <;> rfl)) | exact rfl)))
        all_goals first | contradiction | (exfalso; omega) | skip
        refine ⟨by rw [List.getElem?_set_ne (by omega)]; exact hlD, j, _, hla, hR.hi (hR.hi hRD rfl (Nat.le_refl _) _) rfl (by omega) _, (hFD.hi (Nat.le_refl _) _).hi (by omega) _, rfl, ?_⟩
        rw [List.getElem?_set_ne (by omega)]
        exact (heldS hcD).1 _
      · repeat' (first | refine spD (fun _ => ?_) (fun _ => ?_) | refine spF (fun _ => ?_) (fun _ => ?_) | (apply gT; (exact rfl)) | (apply off; (exact rfl); (exact rfl)) | (apply condT; (exact rfl)) | (apply condF; (exact rfl)) | ((first | (apply stp0; (exact rfl); (exact rfl)) | (apply stpN0; (exact rfl)) | apply gT | apply condT | ((first | apply bodyQ_d0 | apply bodyQ_d1 | apply bodyQ_d2 | apply bodyQ_d3 | apply bodyQ_d4); (exact .inr rfl); (rw [Try.results60]))); (first | (focus (simp only [go_sem, ↓reduceIte, simprocAttr, t1, t2, t4, t5, hbC, l3, hp2, h5C] <;> rfl)) | exact rfl); (first | (fail_if_success (show okD _ _ _ _ _ _ _ _ _)) | (first | exact okT | exact okN | exact okE rfl)); (first | (fail_if_success (show Bel _ _)) | (focus first | exact .val _ | (simp [oneOf, Bel_iff_tup, Bel_iff_agg, Bel_iff_rsl, Bel_iff_fn, Bel_iff_rptr, Bel_val]; done)))) | refine thenQ_n ?_ | refine thenQ_r ?_ | refine thenQ_e ?_ | refine blockQ_n ?_ | refine blockQ_r ?_ | refine blockQ_e ?_ | (apply blockQ_o; (exact rfl)) | refine Awp.seq ?_ | refine Awp.skip ?_ | refine Awp.block ?_ | refine reg (fun s => s == 2 || s == 5) ?_ | (apply drwE mixed (fun s => s == 2 || s == 5); (kernel_rfl)) | refine fin ?_ | refine Awp.ret ?_ | refine Awp.exit ?_ | ((first | (apply off; (exact rfl)) | apply condF); (first | (focus (simp only [go_sem, ↓reduceIte, simprocAttr, t1, t2, t4, t5, hbC, l3, hp2, h5C] <;> rfl)) | exact rfl)))
        all_goals first | contradiction | (exfalso; omega) | skip
        refine ⟨hlC, hgC.set (by omega) _, by simp; omega, by rw [List.getElem?_set_ne (by omega)]; exact hcC, fun i x hi hx => ?_⟩
        by_cases e : i = j
        · subst e; rw [hj] at hx; cases hx; simp [loose, hp2]
        · exact hno i x (by omega) hx
  · rintro H1 ob ⟨hG, hl1, hc, hno⟩ hob
    have hc2 : (H1.set A.length .dead)[H.length]? = some (.cells [[bv false]] 4) := by rw [List.getElem?_set_ne (by omega)]; exact hc
    have hG2 := hG.set (show H.length ≤ A.length by omega) .dead
    generalize H1.set A.length .dead = B at *
    have hc3 := (heldS hc2).1 (.cells [[bv false]] 4)
    repeat' (first | refine spD (fun _ => ?_) (fun _ => ?_) | refine spF (fun _ => ?_) (fun _ => ?_) | (apply gT; (exact rfl)) | (apply off; (exact rfl); (exact rfl)) | (apply condT; (exact rfl)) | (apply condF; (exact rfl)) | ((first | (apply stp0; (exact rfl); (exact rfl)) | (apply stpN0; (exact rfl)) | apply gT | apply condT | ((first | apply bodyQ_d0 | apply bodyQ_d1 | apply bodyQ_d2 | apply bodyQ_d3 | apply bodyQ_d4); (exact .inr rfl); (rw [Try.results60]))); (first | (focus (simp only [go_sem, ↓reduceIte, simprocAttr, t1, t2, t10, hc2] <;> rfl)) | exact rfl); (first | (fail_if_success (show okD _ _ _ _ _ _ _ _ _)) | (first | exact okT | exact okN | exact okE rfl)); (first | (fail_if_success (show Bel _ _)) | (focus first | exact .val _ | (simp [oneOf, Bel_iff_tup, Bel_iff_agg, Bel_iff_rsl, Bel_iff_fn, Bel_iff_rptr, Bel_val]; done)))) | refine thenQ_n ?_ | refine thenQ_r ?_ | refine thenQ_e ?_ | refine blockQ_n ?_ | refine blockQ_r ?_ | refine blockQ_e ?_ | (apply blockQ_o; (exact rfl)) | refine Awp.seq ?_ | refine Awp.skip ?_ | refine Awp.block ?_ | refine reg (fun s => s == 2 || s == 5) ?_ | (apply drwE mixed (fun s => s == 2 || s == 5); (kernel_rfl)) | refine fin ?_ | refine Awp.ret ?_ | refine Awp.exit ?_ | ((first | (apply off; (exact rfl)) | apply condF); (first | (focus (simp only [go_sem, ↓reduceIte, simprocAttr, t1, t2, t10, hc2] <;> rfl)) | exact rfl)))
    all_goals first | contradiction | (exfalso; omega) | skip
    refine bodyQ_mk (vs := [bv false]) (.inr rfl) ?_ (Vs.refl _ _ _) (.inl ⟨lastL_none fun i x hi hx => hno i x (Nat.zero_le _) hx, rfl, hG2.set (Nat.le_refl _) _⟩)
    rw [Try.results60]; first | (simp only [go_sem, ↓reduceIte, simprocAttr, t2, hc3]; done) | (simp only [go_sem, ↓reduceIte, simprocAttr, t2, hc3]; rfl)
  · rintro H1 ⟨j, w', hj, hR', hF, ho, hc⟩
    repeat' (first | refine spD (fun _ => ?_) (fun _ => ?_) | refine spF (fun _ => ?_) (fun _ => ?_) | (apply gT; (exact rfl)) | (apply off; (exact rfl); (exact rfl)) | (apply condT; (exact rfl)) | (apply condF; (exact rfl)) | ((first | (apply stp0; (exact rfl); (exact rfl)) | (apply stpN0; (exact rfl)) | apply gT | apply condT | ((first | apply bodyQ_d0 | apply bodyQ_d1 | apply bodyQ_d2 | apply bodyQ_d3 | apply bodyQ_d4); (exact .inr rfl); (rw [Try.results60]))); (first | (focus (simp only [go_sem, ↓reduceIte, simprocAttr, t1, t2, t10, hc] <;> rfl)) | exact rfl); (first | (fail_if_success (show okD _ _ _ _ _ _ _ _ _)) | (first | exact okT | exact okN | exact okE rfl)); (first | (fail_if_success (show Bel _ _)) | (focus first | exact .val _ | (simp [oneOf, Bel_iff_tup, Bel_iff_agg, Bel_iff_rsl, Bel_iff_fn, Bel_iff_rptr, Bel_val]; done)))) | refine thenQ_n ?_ | refine thenQ_r ?_ | refine thenQ_e ?_ | refine blockQ_n ?_ | refine blockQ_r ?_ | refine blockQ_e ?_ | (apply blockQ_o; (exact rfl)) | refine Awp.seq ?_ | refine Awp.skip ?_ | refine Awp.block ?_ | refine reg (fun s => s == 2 || s == 5) ?_ | (apply drwE mixed (fun s => s == 2 || s == 5); (kernel_rfl)) | refine fin ?_ | refine Awp.ret ?_ | refine Awp.exit ?_ | ((first | (apply off; (exact rfl)) | apply condF); (first | (focus (simp only [go_sem, ↓reduceIte, simprocAttr, t1, t2, t10, hc] <;> rfl)) | exact rfl)))
    all_goals first | contradiction | (exfalso; omega) | skip
    refine bodyQ_mk (vs := [bv true]) (.inr rfl) ?_ (Vs.refl _ _ _) (.inr ⟨j, w', hj, rfl, hR', hF, ho⟩)
    rw [Try.results60]; first | (simp only [go_sem, ↓reduceIte, simprocAttr, t2, hc]; done) | (simp only [go_sem, ↓reduceIte, simprocAttr, t2, hc]; rfl)

end Go.Proofs.Ytlhchnnfgppneaa.Ab
namespace Go.Proofs.Ytlhchnnfgppneaa.Ab
open Go Go.RowKit Go.Proofs
set_option linter.unusedSimpArgs false
set_option linter.unusedVariables false
attribute [local irreducible] Awp wpO thenQ blockQ bodyQ ACalls stepA

set_option maxRecDepth 8000 in
theorem put1_ok {H : Hp} {F : Ft} {w : Rw} (h : RepW H F w) (id : Int) (x r : Item) (h1 : getM w.kr id = some (.agg x.cs)) :
    CallsTo Try.prog 58 [iv id, .agg r.cs, .rptr [.mptr F.b 0 0] 0] H (iv (cmpR x r)) H := by
  have hb := h.hb
  simp only [Rw.cs] at hb
  have l1 := (mT40.look0 h.hr id).2
  rw [h1] at l1
  simp only [Option.getD_some, Item.cs] at l1
  have hc := fun H => compare_ok H x r
  simp only [Item.cs] at hc ⊢
  refine ACalls.of_body Try.func58 rfl (by kernel_rfl) (by rw [Try.ntmps58]; simp) ?_; rw [Try.ntmps58]
  repeat' (first | refine spD (fun _ => ?_) (fun _ => ?_) | refine spF (fun _ => ?_) (fun _ => ?_) | (apply gT; (exact rfl)) | (apply off; (exact rfl); (exact rfl)) | (apply condT; (exact rfl)) | (apply condF; (exact rfl)) | ((first | (apply stp0; (exact rfl); (exact rfl)) | (apply stpN0; (exact rfl)) | apply gT | apply condT | ((first | apply bodyQ_d0 | apply bodyQ_d1 | apply bodyQ_d2 | apply bodyQ_d3 | apply bodyQ_d4); (exact .inr rfl); (rw [Try.results58]))); (first | (focus (simp only [go_sem, ↓reduceIte, simprocAttr, hb, l1] <;> rfl)) | exact rfl); (first | (fail_if_success (show okD _ _ _ _ _ _ _ _ _)) | (first | exact okT | exact okN | exact okE rfl)); (first | (fail_if_success (show Bel _ _)) | (focus first | exact .val _ | (simp [oneOf, Bel_iff_tup, Bel_iff_agg, Bel_iff_rsl, Bel_iff_fn, Bel_iff_rptr, Bel_val]; done)))) | (apply calTo0; (exact rfl); (iterate 2 (simp only [go_sem, ↓reduceIte, simprocAttr, hb, l1]; rfl)); (first | exact hc _); (first | exact okT | exact okN | exact okE rfl)) | refine thenQ_n ?_ | refine thenQ_r ?_ | refine thenQ_e ?_ | refine blockQ_n ?_ | refine blockQ_r ?_ | refine blockQ_e ?_ | (apply blockQ_o; (exact rfl)) | refine Awp.seq ?_ | refine Awp.skip ?_ | refine Awp.block ?_ | refine reg (fun s => false) ?_ | (apply drwE mixed (fun s => false); (kernel_rfl)) | refine fin ?_ | refine Awp.ret ?_ | refine Awp.exit ?_ | ((first | (apply off; (exact rfl)) | apply condF); (first | (focus (simp only [go_sem, ↓reduceIte, simprocAttr, hb, l1] <;> rfl)) | exact rfl)))
  all_goals first | rfl | contradiction | (exfalso; omega) | skip

theorem half_nat (a b : Nat) : ((a : Int) + (b : Int)).tdiv 2 = (((a + b) / 2 : Nat) : Int) := by
  rw [Int.tdiv_eq_ediv_of_nonneg (by omega)]; omega

set_option maxRecDepth 8000 in
set_option maxHeartbeats 4000000 in
theorem place_ok {H : Hp} {F : Ft} {w : Rw} {S : Bf} (hR : Rep H F w S) (hg : Good S) (r : Item) (a : Nat) (ha : a ≤ S.L.length) (hp : ∀ i h, S.L[i]? = some h → (cmpR h.r r < 0 ↔ i < a)) :
    CallsTo Try.prog 57 [w.ord, .agg r.cs, .fn (.func 58) [.rptr [.mptr F.b 0 0] 0]] H (iv a) H := by
  have hil : (idsL S.L).length = S.L.length := by simp [idsL]
  have hlm := hg.len
  obtain ⟨ids, hids⟩ : ∃ ids, ids = idsL S.L := ⟨_, rfl⟩
  have hO := hR.ord
  rw [← hids] at hO hil
  obtain ⟨ord, hord⟩ : ∃ ord, ord = w.ord := ⟨_, rfl⟩
  rw [← hord] at hO ⊢
  cases hO with
  | nil =>
    have : a = 0 := by simp at hil; omega
    subst this
    simp only [Item.cs]
    refine ACalls.of_body Try.func57 rfl (by kernel_rfl) (by rw [Try.ntmps57]; simp) ?_; rw [Try.ntmps57]
    repeat' (first | refine spD (fun _ => ?_) (fun _ => ?_) | refine spF (fun _ => ?_) (fun _ => ?_) | (apply gT; (exact rfl)) | (apply off; (exact rfl); (exact rfl)) | (apply condT; (exact rfl)) | (apply condF; (exact rfl)) | ((first | (apply stp0; (exact rfl); (exact rfl)) | (apply stpN0; (exact rfl)) | apply gT | apply condT | ((first | apply bodyQ_d0 | apply bodyQ_d1 | apply bodyQ_d2 | apply bodyQ_d3 | apply bodyQ_d4); (exact .inr rfl); (rw [Try.results57]))); (first | (focus (simp only [go_sem, ↓reduceIte, simprocAttr] <;> rfl)) | exact rfl); (first | (fail_if_success (show okD _ _ _ _ _ _ _ _ _)) | (first | exact okT | exact okN | exact okE rfl)); (first | (fail_if_success (show Bel _ _)) | (focus first | exact .val _ | (simp [oneOf, Bel_iff_tup, Bel_iff_agg, Bel_iff_rsl, Bel_iff_fn, Bel_iff_rptr, Bel_val]; done)))) | refine thenQ_n ?_ | refine thenQ_r ?_ | refine thenQ_e ?_ | refine blockQ_n ?_ | refine blockQ_r ?_ | refine blockQ_e ?_ | (apply blockQ_o; (exact rfl)) | refine Awp.seq ?_ | refine Awp.skip ?_ | refine Awp.block ?_ | refine reg (fun s => false) ?_ | (apply drwE mixed (fun s => false); (kernel_rfl)) | refine fin ?_ | refine Awp.ret ?_ | refine Awp.exit ?_ | ((first | (apply off; (exact rfl)) | apply condF); (first | (focus (simp only [go_sem, ↓reduceIte, simprocAttr] <;> rfl)) | exact rfl)))
    all_goals first | contradiction | (exfalso; omega) | skip
    refine Awp.loop (ι := Nat) (fun _ T' H' => T' 7 = iv 0 ∧ T' 8 = iv 0 ∧ H' = H) (fun m => m) 0 ?_ ?_
    · refine ⟨?_, ?_, rfl⟩
      · (first | (focus (simp only [go_sem, ↓reduceIte, simprocAttr]; first | done | rfl)) | rfl)
      · (first | (focus (simp only [go_sem, ↓reduceIte, simprocAttr]; first | done | rfl)) | rfl)
    rintro m T H' ⟨t7, t8, hH⟩
    rw [hH]
    repeat' (first | refine spD (fun _ => ?_) (fun _ => ?_) | refine spF (fun _ => ?_) (fun _ => ?_) | (apply gT; (exact rfl)) | (apply off; (exact rfl); (exact rfl)) | (apply condT; (exact rfl)) | (apply condF; (exact rfl)) | ((first | (apply stp0; (exact rfl); (exact rfl)) | (apply stpN0; (exact rfl)) | apply gT | apply condT | ((first | apply bodyQ_d0 | apply bodyQ_d1 | apply bodyQ_d2 | apply bodyQ_d3 | apply bodyQ_d4); (exact .inr rfl); (rw [Try.results57]))); (first | (focus (simp only [go_sem, ↓reduceIte, simprocAttr, t7, t8] <;> rfl)) | exact rfl); (first | (fail_if_success (show okD _ _ _ _ _ _ _ _ _)) | (first | exact okT | exact okN | exact okE rfl)); (first | (fail_if_success (show Bel _ _)) | (focus first | exact .val _ | (simp [oneOf, Bel_iff_tup, Bel_iff_agg, Bel_iff_rsl, Bel_iff_fn, Bel_iff_rptr, Bel_val]; done)))) | refine thenQ_n ?_ | refine thenQ_r ?_ | refine thenQ_e ?_ | refine blockQ_n ?_ | refine blockQ_r ?_ | refine blockQ_e ?_ | (apply blockQ_o; (exact rfl)) | refine Awp.seq ?_ | refine Awp.skip ?_ | refine Awp.block ?_ | refine reg (fun s => false) ?_ | (apply drwE mixed (fun s => false); (kernel_rfl)) | refine fin ?_ | refine Awp.ret ?_ | refine Awp.exit ?_ | ((first | (apply off; (exact rfl)) | apply condF); (first | (focus (simp only [go_sem, ↓reduceIte, simprocAttr, t7, t8] <;> rfl)) | exact rfl)))
    all_goals first | contradiction | (exfalso; omega) | rfl | skip
  | emp =>
    have : a = 0 := by simp at hil; omega
    subst this
    simp only [Item.cs]
    refine ACalls.of_body Try.func57 rfl (by kernel_rfl) (by rw [Try.ntmps57]; simp) ?_; rw [Try.ntmps57]
    repeat' (first | refine spD (fun _ => ?_) (fun _ => ?_) | refine spF (fun _ => ?_) (fun _ => ?_) | (apply gT; (exact rfl)) | (apply off; (exact rfl); (exact rfl)) | (apply condT; (exact rfl)) | (apply condF; (exact rfl)) | ((first | (apply stp0; (exact rfl); (exact rfl)) | (apply stpN0; (exact rfl)) | apply gT | apply condT | ((first | apply bodyQ_d0 | apply bodyQ_d1 | apply bodyQ_d2 | apply bodyQ_d3 | apply bodyQ_d4); (exact .inr rfl); (rw [Try.results57]))); (first | (focus (simp only [go_sem, ↓reduceIte, simprocAttr] <;> rfl)) | exact rfl); (first | (fail_if_success (show okD _ _ _ _ _ _ _ _ _)) | (first | exact okT | exact okN | exact okE rfl)); (first | (fail_if_success (show Bel _ _)) | (focus first | exact .val _ | (simp [oneOf, Bel_iff_tup, Bel_iff_agg, Bel_iff_rsl, Bel_iff_fn, Bel_iff_rptr, Bel_val]; done)))) | refine thenQ_n ?_ | refine thenQ_r ?_ | refine thenQ_e ?_ | refine blockQ_n ?_ | refine blockQ_r ?_ | refine blockQ_e ?_ | (apply blockQ_o; (exact rfl)) | refine Awp.seq ?_ | refine Awp.skip ?_ | refine Awp.block ?_ | refine reg (fun s => false) ?_ | (apply drwE mixed (fun s => false); (kernel_rfl)) | refine fin ?_ | refine Awp.ret ?_ | refine Awp.exit ?_ | ((first | (apply off; (exact rfl)) | apply condF); (first | (focus (simp only [go_sem, ↓reduceIte, simprocAttr] <;> rfl)) | exact rfl)))
    all_goals first | contradiction | (exfalso; omega) | skip
    refine Awp.loop (ι := Nat) (fun _ T' H' => T' 7 = iv 0 ∧ T' 8 = iv 0 ∧ H' = H) (fun m => m) 0 ?_ ?_
    · refine ⟨?_, ?_, rfl⟩
      · (first | (focus (simp only [go_sem, ↓reduceIte, simprocAttr]; first | done | rfl)) | rfl)
      · (first | (focus (simp only [go_sem, ↓reduceIte, simprocAttr]; first | done | rfl)) | rfl)
    rintro m T H' ⟨t7, t8, hH⟩
    rw [hH]
    repeat' (first | refine spD (fun _ => ?_) (fun _ => ?_) | refine spF (fun _ => ?_) (fun _ => ?_) | (apply gT; (exact rfl)) | (apply off; (exact rfl); (exact rfl)) | (apply condT; (exact rfl)) | (apply condF; (exact rfl)) | ((first | (apply stp0; (exact rfl); (exact rfl)) | (apply stpN0; (exact rfl)) | apply gT | apply condT | ((first | apply bodyQ_d0 | apply bodyQ_d1 | apply bodyQ_d2 | apply bodyQ_d3 | apply bodyQ_d4); (exact .inr rfl); (rw [Try.results57]))); (first | (focus (simp only [go_sem, ↓reduceIte, simprocAttr, t7, t8] <;> rfl)) | exact rfl); (first | (fail_if_success (show okD _ _ _ _ _ _ _ _ _)) | (first | exact okT | exact okN | exact okE rfl)); (first | (fail_if_success (show Bel _ _)) | (focus first | exact .val _ | (simp [oneOf, Bel_iff_tup, Bel_iff_agg, Bel_iff_rsl, Bel_iff_fn, Bel_iff_rptr, Bel_val]; done)))) | refine thenQ_n ?_ | refine thenQ_r ?_ | refine thenQ_e ?_ | refine blockQ_n ?_ | refine blockQ_r ?_ | refine blockQ_e ?_ | (apply blockQ_o; (exact rfl)) | refine Awp.seq ?_ | refine Awp.skip ?_ | refine Awp.block ?_ | refine reg (fun s => false) ?_ | (apply drwE mixed (fun s => false); (kernel_rfl)) | refine fin ?_ | refine Awp.ret ?_ | refine Awp.exit ?_ | ((first | (apply off; (exact rfl)) | apply condF); (first | (focus (simp only [go_sem, ↓reduceIte, simprocAttr, t7, t8] <;> rfl)) | exact rfl)))
    all_goals first | contradiction | (exfalso; omega) | rfl | skip
  | row hb hn h0 =>
    rename_i o n v
    have hvl := ints_len v
    rw [List.length_take, Nat.min_eq_left hn] at hil
    simp only [Item.cs]
    refine ACalls.of_body Try.func57 rfl (by kernel_rfl) (by rw [Try.ntmps57]; simp) ?_; rw [Try.ntmps57]
    repeat' (first | refine spD (fun _ => ?_) (fun _ => ?_) | refine spF (fun _ => ?_) (fun _ => ?_) | (apply gT; (exact rfl)) | (apply off; (exact rfl); (exact rfl)) | (apply condT; (exact rfl)) | (apply condF; (exact rfl)) | ((first | (apply stp0; (exact rfl); (exact rfl)) | (apply stpN0; (exact rfl)) | apply gT | apply condT | ((first | apply bodyQ_d0 | apply bodyQ_d1 | apply bodyQ_d2 | apply bodyQ_d3 | apply bodyQ_d4); (exact .inr rfl); (rw [Try.results57]))); (first | (focus (simp only [go_sem, ↓reduceIte, simprocAttr] <;> rfl)) | exact rfl); (first | (fail_if_success (show okD _ _ _ _ _ _ _ _ _)) | (first | exact okT | exact okN | exact okE rfl)); (first | (fail_if_success (show Bel _ _)) | (focus first | exact .val _ | (simp [oneOf, Bel_iff_tup, Bel_iff_agg, Bel_iff_rsl, Bel_iff_fn, Bel_iff_rptr, Bel_val]; done)))) | refine thenQ_n ?_ | refine thenQ_r ?_ | refine thenQ_e ?_ | refine blockQ_n ?_ | refine blockQ_r ?_ | refine blockQ_e ?_ | (apply blockQ_o; (exact rfl)) | refine Awp.seq ?_ | refine Awp.skip ?_ | refine Awp.block ?_ | refine reg (fun s => false) ?_ | (apply drwE mixed (fun s => false); (kernel_rfl)) | refine fin ?_ | refine Awp.ret ?_ | refine Awp.exit ?_ | ((first | (apply off; (exact rfl)) | apply condF); (first | (focus (simp only [go_sem, ↓reduceIte, simprocAttr] <;> rfl)) | exact rfl)))
    all_goals first | contradiction | (exfalso; omega) | skip
    refine Awp.loop (ι := Nat × Nat) (fun q T' H' => q.1 ≤ a ∧ a ≤ q.2 ∧ q.2 ≤ n ∧ T' 7 = iv q.1 ∧ T' 8 = iv q.2 ∧ T' 0 = .msl o 0 n ∧ T' 2 = .fn (.func 58) [.rptr [.mptr F.b 0 0] 0] ∧ T' 4 = .rptr [iv r.id, iv r.cls, iv r.made, iv r.size, iv r.pk] 0 ∧ H' = H) (fun q => q.2 - q.1) (0, n) ?_ ?_
    · refine ⟨Nat.zero_le _, by omega, Nat.le_refl _, ?_, ?_, ?_, ?_, ?_, rfl⟩
      · (first | (focus (simp only [go_sem, ↓reduceIte, simprocAttr]; first | done | rfl)) | rfl)
      · (first | (focus (simp only [go_sem, ↓reduceIte, simprocAttr]; first | done | rfl)) | rfl)
      · (first | (focus (simp only [go_sem, ↓reduceIte, simprocAttr]; first | done | rfl)) | rfl)
      · (first | (focus (simp only [go_sem, ↓reduceIte, simprocAttr]; first | done | rfl)) | rfl)
      · (first | (focus (simp only [go_sem, ↓reduceIte, simprocAttr]; first | done | rfl)) | rfl)
    rintro ⟨lo, hi⟩ T H' ⟨h1, h2, h3, t7, t8, t0, t2, t4, hH⟩
    rw [hH]
    simp only at h1 h2 h3 t7 t8
    by_cases hlt : lo < hi
    · have hml : lo ≤ (lo + hi) / 2 ∧ (lo + hi) / 2 < hi := by omega
      have w1 : IntKind.i64.wrap ((lo : Int) + (hi : Int)) = (lo : Int) + (hi : Int) := w64 (by omega) (by omega)
      have hh := half_nat lo hi
      have w2 : IntKind.i64.wrap ((((lo + hi) / 2 : Nat) : Int)) = (((lo + hi) / 2 : Nat) : Int) := w64 (by omega) (by omega)
      have w3 : IntKind.i64.wrap ((((lo + hi) / 2 : Nat) : Int) + 1) = ((((lo + hi) / 2 + 1 : Nat)) : Int) := by rw [w64 (by omega) (by omega)]; omega
      generalize (lo + hi) / 2 = m at *
      obtain ⟨h, hm⟩ := nth (l := S.L) (i := m) (by omega)
      have hidm : (v.take n)[m]? = some h.r.id := by rw [hids]; unfold idsL; rw [List.getElem?_map, hm]; rfl
      have hvm : (ints v)[m]? = some [iv h.r.id] := by
        rw [List.getElem?_take, if_pos (by omega)] at hidm
        exact nthMap (fun x => [iv x]) hidm
      have hmn : m < n := by omega
      have hpc := fun H' (hw : RepW H' F w) => put1_ok hw h.r.id h.r r (by rw [hR.mr.get]; unfold recF; rw [findH_at hg.nd hm]; rfl)
      have hpc := hpc H hR.raw
      have hpm := hp m h hm
      simp only [Item.cs] at hpc
      have hlt' := Int.ofNat_lt.2 hlt
      generalize cmpR h.r r = cv at *
      by_cases hc : cv < 0
      · have := hpm.1 hc
        repeat' (first | refine spD (fun _ => ?_) (fun _ => ?_) | refine spF (fun _ => ?_) (fun _ => ?_) | (apply gT; (exact rfl)) | (apply off; (exact rfl); (exact rfl)) | (apply condT; (exact rfl)) | (apply condF; (exact rfl)) | ((first | (apply stp0; (exact rfl); (exact rfl)) | (apply stpN0; (exact rfl)) | apply gT | apply condT | ((first | apply bodyQ_d0 | apply bodyQ_d1 | apply bodyQ_d2 | apply bodyQ_d3 | apply bodyQ_d4); (exact .inr rfl); (rw [Try.results57]))); (first | (focus (simp only [go_sem, ↓reduceIte, simprocAttr, hlt', t7, t8, t0, t2, t4, w1, hh, w2, w3, hb, hvl, hvm, hmn, Nat.zero_add, hc, ne_eq, not_false_eq_true] <;> rfl)) | exact rfl); (first | (fail_if_success (show okD _ _ _ _ _ _ _ _ _)) | (first | exact okT | exact okN | exact okE rfl)); (first | (fail_if_success (show Bel _ _)) | (focus first | exact .val _ | (simp [oneOf, Bel_iff_tup, Bel_iff_agg, Bel_iff_rsl, Bel_iff_fn, Bel_iff_rptr, Bel_val]; done)))) | (apply calTo0; (exact rfl); (iterate 2 (simp only [go_sem, ↓reduceIte, simprocAttr, hlt', t7, t8, t0, t2, t4, w1, hh, w2, w3, hb, hvl, hvm, hmn, Nat.zero_add, hc, ne_eq, not_false_eq_true]; rfl)); (first | exact hpc); (first | exact okT | exact okN | exact okE rfl)) | refine thenQ_n ?_ | refine thenQ_r ?_ | refine thenQ_e ?_ | refine blockQ_n ?_ | refine blockQ_r ?_ | refine blockQ_e ?_ | (apply blockQ_o; (exact rfl)) | refine Awp.seq ?_ | refine Awp.skip ?_ | refine Awp.block ?_ | refine reg (fun s => false) ?_ | (apply drwE mixed (fun s => false); (kernel_rfl)) | refine fin ?_ | refine Awp.ret ?_ | refine Awp.exit ?_ | ((first | (apply off; (exact rfl)) | apply condF); (first | (focus (simp only [go_sem, ↓reduceIte, simprocAttr, hlt', t7, t8, t0, t2, t4, w1, hh, w2, w3, hb, hvl, hvm, hmn, Nat.zero_add, hc, ne_eq, not_false_eq_true] <;> rfl)) | exact rfl)))
        all_goals first | contradiction | (exfalso; omega) | skip
        refine ⟨(m + 1, hi), ⟨by simp only; omega, h2, h3, ?_, ?_, ?_, ?_, ?_, rfl⟩, by simp only; omega⟩
        · (first | (focus (simp only [go_sem, ↓reduceIte, simprocAttr, w3]; first | done | rfl)) | rfl)
        · (first | (focus (simp only [go_sem, ↓reduceIte, simprocAttr, t8]; first | done | rfl)) | rfl)
        · (first | (focus (simp only [go_sem, ↓reduceIte, simprocAttr, t0]; first | done | rfl)) | rfl)
        · (first | (focus (simp only [go_sem, ↓reduceIte, simprocAttr, t2]; first | done | rfl)) | rfl)
        · (first | (focus (simp only [go_sem, ↓reduceIte, simprocAttr, t4]; first | done | rfl)) | rfl)
      · have : ¬ m < a := fun k => hc (hpm.2 k)
        repeat' (first | refine spD (fun _ => ?_) (fun _ => ?_) | refine spF (fun _ => ?_) (fun _ => ?_) | (apply gT; (exact rfl)) | (apply off; (exact rfl); (exact rfl)) | (apply condT; (exact rfl)) | (apply condF; (exact rfl)) | ((first | (apply stp0; (exact rfl); (exact rfl)) | (apply stpN0; (exact rfl)) | apply gT | apply condT | ((first | apply bodyQ_d0 | apply bodyQ_d1 | apply bodyQ_d2 | apply bodyQ_d3 | apply bodyQ_d4); (exact .inr rfl); (rw [Try.results57]))); (first | (focus (simp only [go_sem, ↓reduceIte, simprocAttr, hlt', t7, t8, t0, t2, t4, w1, hh, w2, w3, hb, hvl, hvm, hmn, Nat.zero_add, hc, ne_eq, not_false_eq_true] <;> rfl)) | exact rfl); (first | (fail_if_success (show okD _ _ _ _ _ _ _ _ _)) | (first | exact okT | exact okN | exact okE rfl)); (first | (fail_if_success (show Bel _ _)) | (focus first | exact .val _ | (simp [oneOf, Bel_iff_tup, Bel_iff_agg, Bel_iff_rsl, Bel_iff_fn, Bel_iff_rptr, Bel_val]; done)))) | (apply calTo0; (exact rfl); (iterate 2 (simp only [go_sem, ↓reduceIte, simprocAttr, hlt', t7, t8, t0, t2, t4, w1, hh, w2, w3, hb, hvl, hvm, hmn, Nat.zero_add, hc, ne_eq, not_false_eq_true]; rfl)); (first | exact hpc); (first | exact okT | exact okN | exact okE rfl)) | refine thenQ_n ?_ | refine thenQ_r ?_ | refine thenQ_e ?_ | refine blockQ_n ?_ | refine blockQ_r ?_ | refine blockQ_e ?_ | (apply blockQ_o; (exact rfl)) | refine Awp.seq ?_ | refine Awp.skip ?_ | refine Awp.block ?_ | refine reg (fun s => false) ?_ | (apply drwE mixed (fun s => false); (kernel_rfl)) | refine fin ?_ | refine Awp.ret ?_ | refine Awp.exit ?_ | ((first | (apply off; (exact rfl)) | apply condF); (first | (focus (simp only [go_sem, ↓reduceIte, simprocAttr, hlt', t7, t8, t0, t2, t4, w1, hh, w2, w3, hb, hvl, hvm, hmn, Nat.zero_add, hc, ne_eq, not_false_eq_true] <;> rfl)) | exact rfl)))
        all_goals first | contradiction | (exfalso; omega) | skip
        refine ⟨(lo, m), ⟨h1, by simp only; omega, by simp only; omega, ?_, ?_, ?_, ?_, ?_, rfl⟩, by simp only; omega⟩
        · (first | (focus (simp only [go_sem, ↓reduceIte, simprocAttr, t7]; first | done | rfl)) | rfl)
        · (first | (focus (simp only [go_sem, ↓reduceIte, simprocAttr]; first | done | rfl)) | rfl)
        · (first | (focus (simp only [go_sem, ↓reduceIte, simprocAttr, t0]; first | done | rfl)) | rfl)
        · (first | (focus (simp only [go_sem, ↓reduceIte, simprocAttr, t2]; first | done | rfl)) | rfl)
        · (first | (focus (simp only [go_sem, ↓reduceIte, simprocAttr, t4]; first | done | rfl)) | rfl)
    · have e1 : lo = a := by omega
      have e2 : hi = a := by omega
      subst e1; subst e2
      repeat' (first | refine spD (fun _ => ?_) (fun _ => ?_) | refine spF (fun _ => ?_) (fun _ => ?_) | (apply gT; (exact rfl)) | (apply off; (exact rfl); (exact rfl)) | (apply condT; (exact rfl)) | (apply condF; (exact rfl)) | ((first | (apply stp0; (exact rfl); (exact rfl)) | (apply stpN0; (exact rfl)) | apply gT | apply condT | ((first | apply bodyQ_d0 | apply bodyQ_d1 | apply bodyQ_d2 | apply bodyQ_d3 | apply bodyQ_d4); (exact .inr rfl); (rw [Try.results57]))); (first | (focus (simp only [go_sem, ↓reduceIte, simprocAttr, Int.lt_irrefl, t7, t8] <;> rfl)) | exact rfl); (first | (fail_if_success (show okD _ _ _ _ _ _ _ _ _)) | (first | exact okT | exact okN | exact okE rfl)); (first | (fail_if_success (show Bel _ _)) | (focus first | exact .val _ | (simp [oneOf, Bel_iff_tup, Bel_iff_agg, Bel_iff_rsl, Bel_iff_fn, Bel_iff_rptr, Bel_val]; done)))) | refine thenQ_n ?_ | refine thenQ_r ?_ | refine thenQ_e ?_ | refine blockQ_n ?_ | refine blockQ_r ?_ | refine blockQ_e ?_ | (apply blockQ_o; (exact rfl)) | refine Awp.seq ?_ | refine Awp.skip ?_ | refine Awp.block ?_ | refine reg (fun s => false) ?_ | (apply drwE mixed (fun s => false); (kernel_rfl)) | refine fin ?_ | refine Awp.ret ?_ | refine Awp.exit ?_ | ((first | (apply off; (exact rfl)) | apply condF); (first | (focus (simp only [go_sem, ↓reduceIte, simprocAttr, Int.lt_irrefl, t7, t8] <;> rfl)) | exact rfl)))
      all_goals first | contradiction | (exfalso; omega) | rfl | skip

/-- a number put into a row -/
def insA {α : Type} (a : Nat) (x : α) (l : List α) : List α := l.take a ++ x :: l.drop a

set_option maxRecDepth 8000 in
theorem insert_emp (H : Hp) (vb : Nat) (y : AV) (hvb : H[vb]? = some (.cells [[y]] 2)) : CallsTo Try.prog 59 [.rsl [] true, .val (.int .i64 0), .msl vb 0 1] H (.msl H.length 0 1) (H ++ [.cells [[y]] 2]) := by
  refine ACalls.of_body Try.func59 rfl (by kernel_rfl) (by rw [Try.ntmps59]; simp) ?_; rw [Try.ntmps59]
  repeat' (first | refine spD (fun _ => ?_) (fun _ => ?_) | refine spF (fun _ => ?_) (fun _ => ?_) | (apply gT; (exact rfl)) | (apply off; (exact rfl); (exact rfl)) | (apply condT; (exact rfl)) | (apply condF; (exact rfl)) | ((first | (apply stp0; (exact rfl); (exact rfl)) | (apply stpN0; (exact rfl)) | apply gT | apply condT | ((first | apply bodyQ_d0 | apply bodyQ_d1 | apply bodyQ_d2 | apply bodyQ_d3 | apply bodyQ_d4); (exact .inr rfl); (rw [Try.results59]))); (first | (focus (simp only [go_sem, ↓reduceIte, simprocAttr, hvb] <;> rfl)) | exact rfl); (first | (fail_if_success (show okD _ _ _ _ _ _ _ _ _)) | (first | exact okT | exact okN | exact okE rfl)); (first | (fail_if_success (show Bel _ _)) | (focus first | exact .val _ | (simp [oneOf, Bel_iff_tup, Bel_iff_agg, Bel_iff_rsl, Bel_iff_fn, Bel_iff_rptr, Bel_val]; done)))) | refine thenQ_n ?_ | refine thenQ_r ?_ | refine thenQ_e ?_ | refine blockQ_n ?_ | refine blockQ_r ?_ | refine blockQ_e ?_ | (apply blockQ_o; (exact rfl)) | refine Awp.seq ?_ | refine Awp.skip ?_ | refine Awp.block ?_ | refine reg (fun s => false) ?_ | (apply drwE mixed (fun s => false); (kernel_rfl)) | refine fin ?_ | refine Awp.ret ?_ | refine Awp.exit ?_ | ((first | (apply off; (exact rfl)) | apply condF); (first | (focus (simp only [go_sem, ↓reduceIte, simprocAttr, hvb] <;> rfl)) | exact rfl)))
  all_goals first | (exfalso; omega) | skip
  refine bodyQ_mk (vs := [.msl H.length 0 1]) (.inr rfl) ?_ (Vs.refl _ _ _) ?_
  · (rw [Try.results59]; first | (simp only [go_sem, ↓reduceIte, simprocAttr]; done) | (simp only [go_sem, ↓reduceIte, simprocAttr]; rfl))
  · exact ⟨rfl, rfl⟩

theorem insert_ok {H : Hp} {ord : AV} {ids : List Int} (hO : OrdAt H ord ids) {vb : Nat} {y : Int} (hvb : H[vb]? = some (.cells [[iv y]] 2)) (hne : ∀ o n, ord = .msl o 0 n → o ≠ vb) (a : Nat) (ha : a ≤ ids.length) (hl : ids.length ≤ 1000) :
    CallsTo Try.prog 59 [ord, iv a, .msl vb 0 1] H (.msl H.length 0 (ids.length + 1)) (ownK H ord ++ [.cells (ints (insA a y ids)) 2]) := by
  cases hO with
  | nil =>
    have : a = 0 := by simpa using ha
    subst this
    exact insert_nil H vb _ hvb
  | emp =>
    have : a = 0 := by simpa using ha
    subst this
    exact insert_emp H vb _ hvb
  | row hb hn h0 =>
    rename_i o n v
    have hlen : (v.take n).length = n := by rw [List.length_take]; omega
    have hvl := ints_len v
    rw [hlen] at ha hl ⊢
    have hall : (ints v).all (fun e => e.length == 1) = true := by rw [List.all_eq_true]; intro e he; obtain ⟨x, _, rfl⟩ := List.mem_map.1 he; rfl
    have hcell : (ints v).all (fun e => e.all AV.isCell) = true := by rw [List.all_eq_true]; intro e he; obtain ⟨x, _, rfl⟩ := List.mem_map.1 he; rfl
    by_cases hlt : a < n
    · have h := insert_mid H o n a vb (ints v) (iv y) hb hvb (hne _ _ rfl) hlt (by rw [hvl]; exact hn) hall hcell rfl (by omega)
      have e : ((ints v).take n).take a ++ [[iv y]] ++ ((ints v).take n).drop a = ints (insA a y (v.take n)) := by simp [ints, insA, List.map_take, List.map_drop]
      rw [e] at h
      exact h
    · have : a = n := by omega
      subst this
      have h := insert_end H o a vb (ints v) y hb hvb (by rw [hvl]; exact hn) (by rw [hvl]; exact h0) hall (by omega)
      have e : (ints v).take a ++ [[iv y]] = ints (insA a y (v.take a)) := by
        have e1 : (v.take a).take a = v.take a := List.take_of_length_le (Nat.le_of_eq hlen)
        have e2 : (v.take a).drop a = [] := List.drop_of_length_le (Nat.le_of_eq hlen)
        unfold insA
        rw [e1, e2]
        simp [ints, List.map_take]
      rw [e] at h
      exact h

end Go.Proofs.Ytlhchnnfgppneaa.Ab
namespace Go.Proofs.Ytlhchnnfgppneaa.Ab
open Go Go.RowKit Go.Proofs
set_option linter.unusedSimpArgs false
set_option linter.unusedVariables false
attribute [local irreducible] Awp wpO thenQ blockQ bodyQ ACalls stepA

theorem sgn_cases (x y : Int) : (x < y ∧ sgn x y = -1) ∨ (x > y ∧ sgn x y = 1) ∨ (x = y ∧ sgn x y = 0) := by
  unfold sgn
  by_cases h : x < y
  · exact .inl ⟨h, if_pos h⟩
  · by_cases k : x > y
    · exact .inr (.inl ⟨k, by rw [if_neg h, if_pos k]⟩)
    · exact .inr (.inr ⟨by omega, by rw [if_neg h, if_neg k]⟩)
theorem cmpR_neg {a b : Item} : cmpR a b < 0 ↔ lessR b a := by
  unfold cmpR lessR orL
  rcases sgn_cases b.cls a.cls with ⟨h1, e1⟩ | ⟨h1, e1⟩ | ⟨h1, e1⟩ <;> rw [e1]
  · simp; omega
  · simp; omega
  · rcases sgn_cases b.made a.made with ⟨h2, e2⟩ | ⟨h2, e2⟩ | ⟨h2, e2⟩ <;> simp [orL, e2]
    · omega
    · omega
    · rcases sgn_cases a.id b.id with ⟨h3, e3⟩ | ⟨h3, e3⟩ | ⟨h3, e3⟩ <;> simp [orL, e3] <;> omega
theorem lessR_trans {a b c : Item} (h : lessR a b) (k : lessR b c) : lessR a c := by unfold lessR at *; omega
theorem lessR_total {a b : Item} (h : a.id ≠ b.id) : lessR a b ∨ lessR b a := by unfold lessR; omega
theorem lessR_asymm {a b : Item} (h : lessR a b) : ¬ lessR b a := by unfold lessR at *; omega

/-- where a record goes -/
def placeN : List Hd → Item → Nat
  | [], _ => 0
  | h :: l, r => if cmpR h.r r < 0 then placeN l r + 1 else 0
theorem placeN_le (r : Item) : ∀ L : List Hd, placeN L r ≤ L.length := by
  intro L
  induction L with
  | nil => exact Nat.le_refl _
  | cons h l ih => unfold placeN; split <;> simp <;> omega
theorem placeN_spec {r : Item} : ∀ {L : List Hd}, L.Pairwise (fun x y => lessR y.r x.r) → ∀ i h, L[i]? = some h → (cmpR h.r r < 0 ↔ i < placeN L r) := by
  intro L
  induction L with
  | nil => intro _ i h hi; simp at hi
  | cons x l ih =>
    intro hp i h hi
    have hp' := List.pairwise_cons.1 hp
    unfold placeN
    cases i with
    | zero =>
      simp at hi; subst hi
      split
      · rename_i k; simp [k]
      · rename_i k; simp; omega
    | succ i =>
      have hi' : l[i]? = some h := by simpa using hi
      split
      · rw [ih hp'.2 i h hi']; omega
      · rename_i k
        refine ⟨fun k2 => ?_, fun k2 => by omega⟩
        exfalso
        apply k
        rw [cmpR_neg] at *
        exact lessR_trans k2 (hp'.1 h (List.mem_of_getElem? hi'))

def Bf.ins (S : Bf) (r : Item) : Bf := { S with used := S.used + r.size, L := insA (placeN S.L r) ⟨r, false, -1⟩ S.L }
def Bf.drop (S : Bf) : Bf := match S.L.getLast? with
  | some h => { S with used := S.used - h.bytes, L := S.L.dropLast }
  | none => S
def Bf.lastId (S : Bf) : Int := match S.L.getLast? with
  | some h => h.r.id
  | none => 0
def nextJ (S : Bf) : Option Nat := if S.L.length ≤ 256 then lastL S.L S.L.length else none
def Bf.over (S : Bf) : Prop := S.used > S.cap ∨ S.L.length > 256
instance (S : Bf) : Decidable S.over := by unfold Bf.over; infer_instance
def shr : Nat → Bf → List Int → Bf × List Int
  | 0, S, ds => (S, ds)
  | k + 1, S, ds => if S.over then (match nextJ S with
    | some j => shr k (S.press j) ds
    | none => shr k S.drop (ds ++ [S.lastId])) else (S, ds)
def Bf.mu (S : Bf) : Nat := S.L.length + S.L.countP loose
def putE (S : Bf) (r : Item) : Int := if ¬ r.ok then 2 else if r.id ∈ idsL S.L then 12 else if r.pk > S.cap then 14 else 0
def putR (S : Bf) (r : Item) : Bf × List Int := if putE S r = 0 then shr (S.ins r).mu (S.ins r) [] else (S, [])

theorem sum_set {f : Hd → Int} {h h' : Hd} : ∀ {L : List Hd} {j : Nat}, L[j]? = some h → ((L.set j h').map f).sum = (L.map f).sum - f h + f h' := by
  intro L
  induction L with
  | nil => intro j hj; simp at hj
  | cons x l ih =>
    intro j hj
    cases j with
    | zero => simp at hj; subst hj; simp; omega
    | succ j =>
      have := ih (j := j) (by simpa using hj)
      simp only [List.set_cons_succ, List.map_cons, List.sum_cons, this]; omega
theorem insA_map {α β : Type} (f : α → β) (a : Nat) (x : α) (l : List α) : (insA a x l).map f = insA a (f x) (l.map f) := by simp [insA, List.map_take, List.map_drop]
theorem insA_len {α : Type} {a : Nat} {x : α} {l : List α} : (insA a x l).length = l.length + 1 := by simp [insA]; omega
theorem insA_perm {α : Type} (a : Nat) (x : α) (l : List α) : (insA a x l).Perm (x :: l) := by
  unfold insA
  refine List.perm_middle.trans ?_
  rw [List.take_append_drop]
theorem insA_mem {α : Type} {a : Nat} {x y : α} {l : List α} : y ∈ insA a x l ↔ y = x ∨ y ∈ l := by rw [(insA_perm a x l).mem_iff]; simp
theorem sum_ins {f : Hd → Int} (a : Nat) (x : Hd) (L : List Hd) : ((insA a x L).map f).sum = f x + (L.map f).sum := by
  have h : ((L.take a).map f).sum + ((L.drop a).map f).sum = (L.map f).sum := by rw [← List.sum_append, ← List.map_append, List.take_append_drop]
  simp only [insA, List.map_append, List.map_cons, List.sum_append, List.sum_cons]
  omega

theorem Good.insG {S : Bf} (h : Good S) (hl : S.L.length ≤ 256) {r : Item} (hr : r.ok) (hn : r.id ∉ idsL S.L) : Good (S.ins r) := by
  have hpl := placeN_le r S.L
  refine ⟨?_, ?_, ?_, ?_, h.cap, ?_⟩
  · show (idsL (insA _ _ _)).Nodup
    unfold idsL
    rw [insA_map, (insA_perm _ _ _).nodup_iff, List.nodup_cons]
    exact ⟨hn, h.nd⟩
  · intro x hx
    rcases insA_mem.1 hx with rfl | hx
    · exact hr
    · exact h.ok x hx
  · show S.used + r.size = _
    rw [show (S.ins r).L = insA (placeN S.L r) ⟨r, false, -1⟩ S.L from rfl, sum_ins, h.sum]
    show _ = r.size + _
    omega
  · show (insA _ _ _).length ≤ 257
    rw [insA_len]; omega
  · show (insA _ _ _).Pairwise _
    have hs := placeN_spec h.srt (r := r)
    unfold insA
    refine List.pairwise_append.2 ⟨h.srt.sublist (List.take_sublist _ _), List.pairwise_cons.2 ⟨?_, h.srt.sublist (List.drop_sublist _ _)⟩, ?_⟩
    · intro x hx
      obtain ⟨i, hi⟩ := List.getElem?_of_mem hx
      rw [List.getElem?_drop] at hi
      have h1 := (hs _ x hi)
      have h2 : ¬ cmpR x.r r < 0 := fun k => by have := h1.1 k; omega
      rw [cmpR_neg] at h2
      have hne : r.id ≠ x.r.id := fun e => hn (by rw [e]; exact List.mem_map.2 ⟨x, List.mem_of_getElem? hi, rfl⟩)
      rcases lessR_total hne with k | k
      · exact absurd k h2
      · exact k
    · intro x hx y hy
      obtain ⟨i, hi⟩ := List.getElem?_of_mem hx
      rw [List.getElem?_take] at hi
      split at hi
      · rename_i hlt
        have h1 := (hs _ x hi).2 hlt
        rw [cmpR_neg] at h1
        rcases List.mem_cons.1 hy with rfl | hy
        · exact h1
        · obtain ⟨k, hk⟩ := List.getElem?_of_mem hy
          rw [List.getElem?_drop] at hk
          have g1 := List.getElem?_eq_some_iff.1 hi
          have g2 := List.getElem?_eq_some_iff.1 hk
          have := List.pairwise_iff_getElem.1 h.srt i (placeN S.L r + k) g1.1 g2.1 (by omega)
          rwa [g1.2, g2.2] at this
      · cases hi
def recs (L : List Hd) : List Item := L.map fun h => h.r
theorem recs_set {L : List Hd} {j : Nat} {h h' : Hd} (hj : L[j]? = some h) (he : h'.r = h.r) : recs (L.set j h') = recs L := by
  unfold recs
  rw [List.map_set]
  refine List.ext_getElem? fun i => ?_
  rw [List.getElem?_set]
  split
  · rename_i e; subst e
    rw [List.length_map, if_pos (List.getElem?_eq_some_iff.1 hj).1, List.getElem?_map, hj, Option.map_some, he]
  · rfl
theorem srt_recs {L : List Hd} : L.Pairwise (fun x y => lessR y.r x.r) ↔ (recs L).Pairwise (fun x y => lessR y x) := by unfold recs; rw [List.pairwise_map]
theorem press_eq {S : Bf} {j : Nat} {x : Hd} (hj : S.L[j]? = some x) : S.press j = { S with used := S.used - (x.r.size - x.r.pk), L := S.L.set j { x with sm := true } } := by unfold Bf.press; rw [hj]
theorem loose_iff {x : Hd} : loose x = true ↔ x.sm = false ∧ x.r.pk < x.r.size := by unfold loose; cases x.sm <;> simp
theorem Good.pressG {S : Bf} (h : Good S) {j : Nat} {x : Hd} (hj : S.L[j]? = some x) (hl : loose x = true) : Good (S.press j) := by
  rw [press_eq hj]
  refine ⟨?_, ?_, ?_, ?_, h.cap, ?_⟩
  · show (idsL (S.L.set j { x with sm := true })).Nodup
    rw [idsL_set (h' := { x with sm := true }) hj rfl]; exact h.nd
  · intro y hy
    rcases List.mem_or_eq_of_mem_set hy with m | rfl
    · exact h.ok y m
    · exact h.ok x (List.mem_of_getElem? hj)
  · show S.used - (x.r.size - x.r.pk) = ((S.L.set j { x with sm := true }).map Hd.bytes).sum
    rw [sum_set hj, h.sum]
    have h1 := (loose_iff.1 hl).1
    have e1 : x.bytes = x.r.size := by unfold Hd.bytes; rw [h1]; rfl
    have e2 : Hd.bytes { x with sm := true } = x.r.pk := rfl
    rw [e1, e2]; omega
  · show (S.L.set j _).length ≤ 257
    rw [List.length_set]; exact h.len
  · show (S.L.set j { x with sm := true }).Pairwise _
    rw [srt_recs, recs_set (h' := { x with sm := true }) hj rfl, ← srt_recs]; exact h.srt
theorem last_split {L : List Hd} {x : Hd} (h : L.getLast? = some x) : L = L.dropLast ++ [x] := by
  obtain ⟨ys, e⟩ := List.getLast?_eq_some_iff.1 h
  subst e; simp
theorem drop_eq {S : Bf} {x : Hd} (h : S.L.getLast? = some x) : S.drop = { S with used := S.used - x.bytes, L := S.L.dropLast } ∧ S.lastId = x.r.id := by unfold Bf.drop Bf.lastId; rw [h]; exact ⟨rfl, rfl⟩
theorem Good.dropG {S : Bf} (h : Good S) {x : Hd} (hx : S.L.getLast? = some x) : Good S.drop := by
  rw [(drop_eq hx).1]
  have hs := last_split hx
  have hsub : S.L.dropLast.Sublist S.L := List.dropLast_sublist _
  refine ⟨?_, fun y hy => h.ok y (hsub.subset hy), ?_, ?_, h.cap, h.srt.sublist hsub⟩
  · exact h.nd.sublist (hsub.map _)
  · show S.used - x.bytes = (S.L.dropLast.map Hd.bytes).sum
    have : (S.L.map Hd.bytes).sum = (S.L.dropLast.map Hd.bytes).sum + x.bytes := by
      conv => lhs; rw [hs]
      simp
    rw [h.sum]; omega
  · show S.L.dropLast.length ≤ 257
    have := h.len
    rw [List.length_dropLast]; omega
theorem mu_press {S : Bf} {j : Nat} {x : Hd} (hj : S.L[j]? = some x) (hl : loose x = true) : (S.press j).mu + 1 = S.mu := by
  rw [press_eq hj]
  have hlt := (List.getElem?_eq_some_iff.1 hj)
  show (S.L.set j { x with sm := true }).length + (S.L.set j { x with sm := true }).countP loose + 1 = S.L.length + S.L.countP loose
  rw [List.length_set, List.countP_set hlt.1]
  have h1 : loose (S.L[j]'hlt.1) = true := by rw [hlt.2]; exact hl
  have h2 : loose { x with sm := true } = false := rfl
  have h3 : 0 < S.L.countP loose := List.countP_pos_iff.2 ⟨x, List.mem_of_getElem? hj, hl⟩
  rw [h1, h2]
  simp
  omega
theorem mu_drop {S : Bf} {x : Hd} (hx : S.L.getLast? = some x) : S.drop.mu + 1 ≤ S.mu := by
  rw [(drop_eq hx).1]
  have hs := last_split hx
  have h1 : (S.L.dropLast).countP loose ≤ S.L.countP loose := (List.dropLast_sublist _).countP_le
  have h2 : S.L.length = S.L.dropLast.length + 1 := by
    have := congrArg List.length hs
    rw [List.length_append, List.length_singleton] at this
    exact this
  show S.L.dropLast.length + (S.L.dropLast).countP loose + 1 ≤ S.L.length + S.L.countP loose
  omega
theorem over_ne {S : Bf} (h : Good S) (ho : S.over) : ∃ x, S.L.getLast? = some x := by
  cases e : S.L.getLast? with
  | some x => exact ⟨x, rfl⟩
  | none =>
    exfalso
    have hn : S.L = [] := List.getLast?_eq_none_iff.1 e
    have hs := h.sum
    have hc := h.cap
    unfold Bf.over at ho
    rw [hn] at hs ho
    simp at hs ho
    omega
theorem nextJ_some {S : Bf} {j : Nat} (h : nextJ S = some j) : S.L.length ≤ 256 ∧ ∃ x, S.L[j]? = some x ∧ loose x = true := by
  unfold nextJ at h
  split at h
  · rename_i hl; exact ⟨hl, (lastL_spec h).2.1⟩
  · cases h

/-- what is so while records are pressed and dropped -/
structure Shr (S0 S : Bf) (ds : List Int) : Prop where
  good : Good S
  cap : S.cap = S0.cap
  time : S.time = S0.time
  recs : recs S.L = (Ab.recs S0.L).take S.L.length
  len : S.L.length + ds.length = S0.L.length
  drp : ∀ d ∈ ds, ∃ x ∈ (Ab.recs S0.L).drop S.L.length, x.id = d
  keep : ∀ (i : Nat) (x y : Hd), S.L[i]? = some x → S0.L[i]? = some y → (y.sm = true → x.sm = true) ∧ x.sent = y.sent
  no : S0.L.length ≤ 256 → ds ≠ [] → ∀ x ∈ S.L, loose x = false
theorem Shr.start {S : Bf} (h : Good S) : Shr S S [] := ⟨h, rfl, rfl, by rw [List.take_of_length_le (by simp [Ab.recs])], by simp, by simp, fun i x y h1 h2 => by rw [h1] at h2; cases h2; exact ⟨id, rfl⟩, fun _ h => absurd rfl h⟩
theorem Shr.pressS {S0 S : Bf} {ds : List Int} (h : Shr S0 S ds) {j : Nat} (hj : nextJ S = some j) : Shr S0 (S.press j) ds := by
  obtain ⟨_, x, hx, hl⟩ := nextJ_some hj
  have hg := h.good.pressG hx hl
  have hjs := (loose_iff.1 hl).1
  rw [press_eq hx] at hg ⊢
  have hlen : (S.L.set j { x with sm := true }).length = S.L.length := List.length_set ..
  refine ⟨hg, h.cap, h.time, ?_, ?_, ?_, ?_, ?_⟩
  · show Ab.recs (S.L.set j { x with sm := true }) = _
    rw [hlen, recs_set (h' := { x with sm := true }) hx rfl]; exact h.recs
  · show (S.L.set j _).length + _ = _
    rw [hlen]; exact h.len
  · show ∀ d ∈ ds, ∃ y ∈ (Ab.recs S0.L).drop (S.L.set j _).length, _
    rw [hlen]; exact h.drp
  · intro i a b ha hb
    have ha' : (S.L.set j { x with sm := true })[i]? = some a := ha
    rw [List.getElem?_set] at ha'
    split at ha'
    · rename_i e; subst e
      rw [if_pos (List.getElem?_eq_some_iff.1 hx).1] at ha'
      cases ha'
      exact ⟨fun _ => rfl, (h.keep _ _ _ hx hb).2⟩
    · exact h.keep i a b ha' hb
  · intro h0 hd y hy
    have := h.no h0 hd x (List.mem_of_getElem? hx)
    rw [hl] at this; cases this
theorem Shr.dropS {S0 S : Bf} {ds : List Int} (h : Shr S0 S ds) (ho : S.over) (hj : nextJ S = none) : Shr S0 S.drop (ds ++ [S.lastId]) := by
  obtain ⟨x, hx⟩ := over_ne h.good ho
  have hg := h.good.dropG hx
  obtain ⟨e1, e2⟩ := drop_eq hx
  have hs := last_split hx
  have hlen : S.L.length = S.L.dropLast.length + 1 := by
    have := congrArg List.length hs
    rw [List.length_append, List.length_singleton] at this
    exact this
  rw [e2]
  rw [e1] at hg ⊢
  have hl2 := h.len
  have hr0 : (Ab.recs S0.L).length = S0.L.length := by simp [Ab.recs]
  have hat : (Ab.recs S0.L)[S.L.dropLast.length]? = some x.r := by
    have h1 : (Ab.recs S.L)[S.L.dropLast.length]? = some x.r := by
      unfold Ab.recs
      rw [List.getElem?_map]
      conv => lhs; rw [hs]
      simp
    rw [h.recs, List.getElem?_take, if_pos (by omega)] at h1
    exact h1
  refine ⟨hg, h.cap, h.time, ?_, ?_, ?_, ?_, ?_⟩
  · show Ab.recs S.L.dropLast = (Ab.recs S0.L).take S.L.dropLast.length
    have h1 : Ab.recs S.L = Ab.recs S.L.dropLast ++ [x.r] := by
      have := congrArg Ab.recs hs
      unfold Ab.recs at this ⊢
      rw [List.map_append] at this
      exact this
    have h2 := h.recs
    rw [h1, hlen, List.take_add_one, hat] at h2
    exact (List.append_inj' h2 (by simp)).1
  · show S.L.dropLast.length + (ds ++ [x.r.id]).length = _
    simp only [List.length_append, List.length_singleton]; omega
  · intro d hd
    show ∃ y ∈ (Ab.recs S0.L).drop S.L.dropLast.length, y.id = d
    have hdr : (Ab.recs S0.L).drop S.L.dropLast.length = x.r :: (Ab.recs S0.L).drop S.L.length := by
      have hlt : S.L.dropLast.length < (Ab.recs S0.L).length := (List.getElem?_eq_some_iff.1 hat).1
      rw [List.drop_eq_getElem_cons hlt, (List.getElem?_eq_some_iff.1 hat).2, hlen]
    rw [hdr]
    rcases List.mem_append.1 hd with m | m
    · obtain ⟨y, hy, e⟩ := h.drp d m; exact ⟨y, by simp [hy], e⟩
    · simp at m; exact ⟨x.r, by simp, m.symm⟩
  · intro i a b ha hb
    have ha' : S.L.dropLast[i]? = some a := ha
    have hi := (List.getElem?_eq_some_iff.1 ha').1
    have : S.L[i]? = some a := by
      rw [hs, List.getElem?_append_left hi]; exact ha'
    exact h.keep i a b this hb
  · intro h0 _ y hy
    have hy' : y ∈ S.L.dropLast := hy
    obtain ⟨i, hi⟩ := List.getElem?_of_mem hy'
    have hil := (List.getElem?_eq_some_iff.1 hi).1
    have hyL : S.L[i]? = some y := by rw [hs, List.getElem?_append_left hil]; exact hi
    unfold nextJ at hj
    rw [if_pos (by omega)] at hj
    exact lastL_no hj i y (by omega) hyL
theorem shr_spec : ∀ (k : Nat) {S0 S : Bf} {ds : List Int}, Shr S0 S ds → S.mu ≤ k → Shr S0 (shr k S ds).1 (shr k S ds).2 ∧ ¬ (shr k S ds).1.over
  | 0, S0, S, ds, h, hm => by
    refine ⟨h, fun ho => ?_⟩
    obtain ⟨x, hx⟩ := over_ne h.good ho
    have := mu_drop hx
    omega
  | k + 1, S0, S, ds, h, hm => by
    unfold shr
    by_cases ho : S.over
    · rw [if_pos ho]
      cases hj : nextJ S with
      | some j =>
        obtain ⟨_, x, hx, hl⟩ := nextJ_some hj
        have := mu_press hx hl
        exact shr_spec k (h.pressS hj) (by omega)
      | none =>
        obtain ⟨x, hx⟩ := over_ne h.good ho
        have := mu_drop hx
        exact shr_spec k (h.dropS ho hj) (by omega)
    · rw [if_neg ho]; exact ⟨h, ho⟩

end Go.Proofs.Ytlhchnnfgppneaa.Ab
