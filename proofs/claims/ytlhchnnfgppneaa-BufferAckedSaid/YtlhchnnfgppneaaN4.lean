/- Buffers: what a buffer holds; compress. -/
import Derived.Test.YtlhchnnfgppneaaN3
namespace Go.Proofs.Ytlhchnnfgppneaa.Ab
open Go Go.RowKit Go.Proofs
set_option linter.unusedSimpArgs false
set_option linter.unusedVariables false
attribute [local irreducible] Awp wpO thenQ blockQ bodyQ ACalls stepA

/-- a record in a buffer -/
structure Hd where
  r : Item
  sm : Bool
  sent : Int
def Hd.bytes (h : Hd) : Int := if h.sm then h.r.pk else h.r.size
def loose (h : Hd) : Bool := !h.sm && decide (h.r.pk < h.r.size)
structure Bf where
  cap : Int
  used : Int
  time : Int
  L : List Hd
def idsL (L : List Hd) : List Int := L.map fun h => h.r.id
def findH : List Hd → Int → Option Hd
  | [], _ => none
  | h :: l, x => if x = h.r.id then some h else findH l x
def recF (L : List Hd) (x : Int) : Option AV := (findH L x).map fun h => .agg h.r.cs
def smF (L : List Hd) (x : Int) : Option AV := (findH L x).bind fun h => if h.sm then some (iv 1) else none
def stF (L : List Hd) (x : Int) : Option AV := (findH L x).bind fun h => if h.sent = -1 then none else some (iv h.sent)

theorem findH_at : ∀ {L : List Hd} {j : Nat} {h : Hd}, (idsL L).Nodup → L[j]? = some h → findH L h.r.id = some h
  | x :: l, 0, h, _, hj => by simp at hj; subst hj; simp [findH]
  | x :: l, j + 1, h, hn, hj => by
    have hn' := List.nodup_cons.1 hn
    have hm : h ∈ l := List.mem_of_getElem? (by simpa using hj)
    have hne : h.r.id ≠ x.r.id := fun e => hn'.1 (by show x.r.id ∈ List.map (fun h => h.r.id) l; rw [← e]; exact List.mem_map.2 ⟨h, hm, rfl⟩)
    unfold findH
    rw [if_neg hne]
    exact findH_at hn'.2 (by simpa using hj)
theorem findH_none {x : Int} : ∀ {L : List Hd}, findH L x = none ↔ x ∉ idsL L := by
  intro L
  induction L with
  | nil => simp [findH, idsL]
  | cons h l ih =>
    unfold findH
    split
    · rename_i e; simp [idsL, e]
    · rename_i e
      rw [ih]
      simp [idsL, e]
theorem findH_mem {x : Int} {h : Hd} : ∀ {L : List Hd}, findH L x = some h → h ∈ L ∧ h.r.id = x := by
  intro L
  induction L with
  | nil => intro e; cases e
  | cons y l ih =>
    intro e
    unfold findH at e
    split at e
    · rename_i k; cases e; exact ⟨by simp, k.symm⟩
    · obtain ⟨a, b⟩ := ih e; exact ⟨by simp [a], b⟩
theorem findH_set {h h' : Hd} (he : h'.r = h.r) (y : Int) : ∀ {L : List Hd} {j : Nat}, (idsL L).Nodup → L[j]? = some h → findH (L.set j h') y = if y = h.r.id then some h' else findH L y := by
  intro L
  induction L with
  | nil => intro j _ hj; simp at hj
  | cons x l ih =>
    intro j hn hj
    have hn' := List.nodup_cons.1 hn
    cases j with
    | zero =>
      simp at hj; subst hj
      show (if y = h'.r.id then some h' else findH l y) = _
      rw [he]
      show _ = if y = x.r.id then some h' else (if y = x.r.id then some x else findH l y)
      split <;> rfl
    | succ j =>
      have hm : h ∈ l := List.mem_of_getElem? (by simpa using hj)
      have hne : h.r.id ≠ x.r.id := fun e => hn'.1 (by show x.r.id ∈ List.map (fun h => h.r.id) l; rw [← e]; exact List.mem_map.2 ⟨h, hm, rfl⟩)
      have := ih hn'.2 (by simpa using hj)
      show (if y = x.r.id then some x else findH (l.set j h') y) = if y = h.r.id then some h' else (if y = x.r.id then some x else findH l y)
      rw [this]
      by_cases k : y = x.r.id
      · rw [if_pos k, if_pos k, if_neg (by rw [k]; exact Ne.symm hne)]
      · rw [if_neg k, if_neg k]
theorem idsL_set {L : List Hd} {j : Nat} {h h' : Hd} (hj : L[j]? = some h) (he : h'.r = h.r) : idsL (L.set j h') = idsL L := by
  unfold idsL
  rw [List.map_set]
  refine List.ext_getElem? fun i => ?_
  rw [List.getElem?_set]
  split
  · rename_i e; subst e
    rw [List.length_map, if_pos (List.getElem?_eq_some_iff.1 hj).1, List.getElem?_map, hj, Option.map_some, he]
  · rfl

/-- the least important record that is loose, of the first n -/
def lastL (L : List Hd) : Nat → Option Nat
  | 0 => none
  | j + 1 => match L[j]? with
    | some h => if loose h then some j else lastL L j
    | none => lastL L j
theorem lastL_none {L : List Hd} : ∀ {n : Nat}, (∀ i h, i < n → L[i]? = some h → loose h = false) → lastL L n = none
  | 0, _ => rfl
  | j + 1, k => by
    unfold lastL
    split
    · rename_i h e
      rw [k j h (by omega) e]
      exact lastL_none fun i h hi => k i h (by omega)
    · exact lastL_none fun i h hi => k i h (by omega)
theorem lastL_at {L : List Hd} {j : Nat} {h : Hd} (hj : L[j]? = some h) (hl : loose h = true) : ∀ {n : Nat}, j < n → (∀ i x, j < i → i < n → L[i]? = some x → loose x = false) → lastL L n = some j
  | n + 1, hjn, k => by
    unfold lastL
    by_cases e : j = n
    · subst e; rw [hj]; simp [hl]
    · split
      · rename_i x ex
        rw [k n x (by omega) (by omega) ex]
        exact lastL_at hj hl (by omega) fun i x h1 h2 => k i x h1 (by omega)
      · exact lastL_at hj hl (by omega) fun i x h1 h2 => k i x h1 (by omega)
theorem lastL_spec {L : List Hd} : ∀ {n j : Nat}, lastL L n = some j → j < n ∧ (∃ h, L[j]? = some h ∧ loose h = true) ∧ ∀ i x, j < i → i < n → L[i]? = some x → loose x = false
  | 0, j, h => by cases h
  | n + 1, j, h => by
    unfold lastL at h
    split at h
    · rename_i x ex
      split at h
      · rename_i hl; cases h
        exact ⟨by omega, ⟨x, ex, hl⟩, fun i y h1 h2 => by omega⟩
      · rename_i hl
        obtain ⟨a, b, c⟩ := lastL_spec h
        refine ⟨by omega, b, fun i y h1 h2 hy => ?_⟩
        by_cases e : i = n
        · subst e; rw [ex] at hy; cases hy; simpa using hl
        · exact c i y h1 (by omega) hy
    · rename_i ex
      obtain ⟨a, b, c⟩ := lastL_spec h
      refine ⟨by omega, b, fun i y h1 h2 hy => ?_⟩
      by_cases e : i = n
      · subst e; rw [ex] at hy; cases hy
      · exact c i y h1 (by omega) hy
theorem lastL_no {L : List Hd} : ∀ {n : Nat}, lastL L n = none → ∀ i x, i < n → L[i]? = some x → loose x = false
  | n + 1, h, i, x, hi, hx => by
    unfold lastL at h
    split at h
    · rename_i y ey
      split at h
      · cases h
      · rename_i hl
        by_cases e : i = n
        · subst e; rw [ey] at hx; cases hx; simpa using hl
        · exact lastL_no h i x (by omega) hx
    · rename_i ey
      by_cases e : i = n
      · subst e; rw [ey] at hx; cases hx
      · exact lastL_no h i x (by omega) hx

/-- how a buffer lies in memory -/
structure Rep (H : Hp) (F : Ft) (w : Rw) (S : Bf) : Prop where
  raw : RepW H F w
  cap : w.cap = S.cap
  used : w.used = S.used
  time : w.time = S.time
  ord : OrdAt H w.ord (idsL S.L)
  mr : MapIs w.kr (recF S.L)
  ms : MapIs w.ks (smF S.L)
  mt : MapIs w.kt (stF S.L)
theorem Rep.grow {H H' : Hp} {F : Ft} {w : Rw} {S : Bf} (h : Rep H F w S) (hG : Grow H H') : Rep H' F w S :=
  ⟨h.raw.grow hG, h.cap, h.used, h.time, h.ord.grow hG, h.mr, h.ms, h.mt⟩
theorem Grow.fr {F : Ft} {H H' : Hp} (h : Grow H H') : Fr F H H' := ⟨h.len, fun j hj _ _ _ _ => h.old j hj⟩
theorem MapIs.congr {ks : List (Int × AV)} {f f' : Int → Option AV} (h : MapIs ks f) (e : ∀ y, f' y = f y) : MapIs ks f' := ⟨h.nd, fun y => (h.get y).trans (e y).symm⟩
theorem OrdAt.hi {H D : Hp} {a : AV} {ids ids' : List Int} (hH : OrdAt H a ids) (hD : OrdAt D a ids') {s : Nat} (hs : H.length ≤ s) (c : AObj) : OrdAt (D.set s c) a ids' := hD.get fun o n v e hb => by
  obtain ⟨v0, h0, _⟩ := hH.blk e
  have := (List.getElem?_eq_some_iff.1 h0).1
  rw [List.getElem?_set_ne (by omega)]; exact hb
theorem RepW.lt {H : Hp} {F : Ft} {w : Rw} (h : RepW H F w) : F.b < H.length ∧ F.r < H.length ∧ F.s < H.length ∧ F.t < H.length :=
  ⟨(List.getElem?_eq_some_iff.1 h.hb).1, (List.getElem?_eq_some_iff.1 h.hr).1, (List.getElem?_eq_some_iff.1 h.hs).1, (List.getElem?_eq_some_iff.1 h.ht).1⟩
theorem Rep.hi {H D : Hp} {F : Ft} {w w' : Rw} {S S' : Bf} (hH : Rep H F w S) (hD : Rep D F w' S') (ho : w'.ord = w.ord) {s : Nat} (hs : H.length ≤ s) (c : AObj) : Rep (D.set s c) F w' S' := by
  obtain ⟨l1, l2, l3, l4⟩ := hH.raw.lt
  refine ⟨⟨?_, ?_, ?_, ?_, hD.raw.rs, hD.raw.rt, hD.raw.st⟩, hD.cap, hD.used, hD.time, ?_, hD.mr, hD.ms, hD.mt⟩
  · rw [List.getElem?_set_ne (by omega)]; exact hD.raw.hb
  · rw [List.getElem?_set_ne (by omega)]; exact hD.raw.hr
  · rw [List.getElem?_set_ne (by omega)]; exact hD.raw.hs
  · rw [List.getElem?_set_ne (by omega)]; exact hD.raw.ht
  · rw [ho]; exact OrdAt.hi hH.ord (ho ▸ hD.ord) hs c
theorem Fr.hi {F : Ft} {H D : Hp} (h : Fr F H D) {s : Nat} (hs : H.length ≤ s) (c : AObj) : Fr F H (D.set s c) :=
  ⟨by simpa using h.len, fun j hj a b d e => by rw [List.getElem?_set_ne (by omega)]; exact h.old j hj a b d e⟩
/-- what holds of every buffer -/
structure Good (S : Bf) : Prop where
  nd : (idsL S.L).Nodup
  ok : ∀ h ∈ S.L, h.r.ok
  sum : S.used = (S.L.map Hd.bytes).sum
  len : S.L.length ≤ 257
  cap : 1 ≤ S.cap ∧ S.cap ≤ 16777216
  srt : S.L.Pairwise fun x y => lessR y.r x.r
theorem Good.used {S : Bf} (h : Good S) : 0 ≤ S.used ∧ S.used ≤ 16777216 * S.L.length := by
  rw [h.sum]
  have key : ∀ L : List Hd, (∀ h ∈ L, h.r.ok) → 0 ≤ (L.map Hd.bytes).sum ∧ (L.map Hd.bytes).sum ≤ 16777216 * L.length := by
    intro L
    induction L with
    | nil => simp
    | cons x l ih =>
      intro h
      have h1 := ih fun y hy => h y (by simp [hy])
      have h2 := h x (by simp)
      simp only [Item.ok] at h2
      have e : ((x :: l).map Hd.bytes).sum = x.bytes + (l.map Hd.bytes).sum := by simp
      have e2 : (16777216 : Int) * ((x :: l).length : Nat) = 16777216 * l.length + 16777216 := by rw [List.length_cons, Int.natCast_succ, Int.mul_add, Int.mul_one]
      rw [e, e2]
      have hb : 1 ≤ x.bytes ∧ x.bytes ≤ 16777216 := by unfold Hd.bytes; split <;> omega
      omega
  exact key _ h.ok

/-- the buffer with its record j compressed -/
def Bf.press (S : Bf) (j : Nat) : Bf := match S.L[j]? with
  | some h => { S with used := S.used - (h.r.size - h.r.pk), L := S.L.set j { h with sm := true } }
  | none => S

set_option maxRecDepth 8000 in
set_option maxHeartbeats 4000000 in
theorem compress_ok {H : Hp} {F : Ft} {w : Rw} {S : Bf} (hR : Rep H F w S) (hg : Good S) :
    ACalls Try.prog 60 [.mptr F.b 0 0] H fun v1 H1 => (lastL S.L S.L.length = none ∧ v1 = bv false ∧ Grow H H1) ∨
      ∃ j w', lastL S.L S.L.length = some j ∧ v1 = bv true ∧ Rep H1 F w' (S.press j) ∧ Fr F H H1 ∧ w'.ord = w.ord := by
  have hb := hR.raw.hb
  simp only [Rw.cs] at hb
  have hil : (idsL S.L).length = S.L.length := by simp [idsL]
  have hlm : (idsL S.L).length ≤ maxLen := by have := hg.len; simp only [maxLen]; omega
  have hbb := held hb
  have hbk := backward_ok (H ++ [.cells [[bv false]] 4]) w.ord _ (hR.ord.grow ((Grow.refl _).app _))
  refine ACalls.of_body Try.func60 rfl (by kernel_rfl) (by rw [Try.ntmps60]; simp) ?_; rw [Try.ntmps60]
  repeat' (first | refine spD (fun _ => ?_) (fun _ => ?_) | refine spF (fun _ => ?_) (fun _ => ?_) | (apply gT; (exact rfl)) | (apply off; (exact rfl); (exact rfl)) | (apply condT; (exact rfl)) | (apply condF; (exact rfl)) | ((first | (apply stp0; (exact rfl); (exact rfl)) | (apply stpN0; (exact rfl)) | apply gT | apply condT | ((first | apply bodyQ_d0 | apply bodyQ_d1 | apply bodyQ_d2 | apply bodyQ_d3 | apply bodyQ_d4); (exact .inr rfl); (rw [Try.results60]))); (first | (focus (simp only [go_sem, ↓reduceIte, simprocAttr, hbb] <;> rfl)) | exact rfl); (first | (fail_if_success (show okD _ _ _ _ _ _ _ _ _)) | (first | exact okT | exact okN | exact okE rfl)); (first | (fail_if_success (show Bel _ _)) | (focus first | exact .val _ | (simp [oneOf, Bel_iff_tup, Bel_iff_agg, Bel_iff_rsl, Bel_iff_fn, Bel_iff_rptr, Bel_val]; done)))) | (apply calTo0; (exact rfl); (iterate 2 (simp only [go_sem, ↓reduceIte, simprocAttr, hbb]; rfl)); (first | exact hbk); (first | exact okT | exact okN | exact okE rfl)) | refine thenQ_n ?_ | refine thenQ_r ?_ | refine thenQ_e ?_ | refine blockQ_n ?_ | refine blockQ_r ?_ | refine blockQ_e ?_ | (apply blockQ_o; (exact rfl)) | refine Awp.seq ?_ | refine Awp.skip ?_ | refine Awp.block ?_ | refine reg (fun s => s == 2 || s == 5) ?_ | (apply drwE mixed (fun s => s == 2 || s == 5); (kernel_rfl)) | refine fin ?_ | refine Awp.ret ?_ | refine Awp.exit ?_ | ((first | (apply off; (exact rfl)) | apply condF); (first | (focus (simp only [go_sem, ↓reduceIte, simprocAttr, hbb] <;> rfl)) | exact rfl)))
  all_goals first | contradiction | (exfalso; omega) | skip
  have hG0 : Grow H (H ++ [AObj.cells [[bv false]] 4]) := (Grow.refl _).app _
  have hAl : (H ++ [AObj.cells [[bv false]] 4]).length = H.length + 1 := by simp
  obtain ⟨F1l, F2l⟩ : F.b < H.length ∧ F.s < H.length := ⟨(List.getElem?_eq_some_iff.1 hR.raw.hb).1, (List.getElem?_eq_some_iff.1 hR.raw.hs).1⟩
  generalize hA : H ++ [AObj.cells [[bv false]] 4] = A at *
  have hA0 : A[H.length]? = some (.cells [[bv false]] 4) := by rw [← hA]; exact get_new _ _
  clear hA hbk hbb
  refine Awp.withT (fun T' => T' 1 = .rptr [.mptr F.b 0 0] 0 ∧ T' 2 = .mptr H.length 0 0 ∧ T' 10 = .fn (.func 115) [.rptr [w.ord] 0]) ⟨?_, ?_, ?_⟩ ?_
  · (first | (focus (simp only [go_sem, ↓reduceIte, simprocAttr]; first | done | rfl)) | rfl)
  · (first | (focus (simp only [go_sem, ↓reduceIte, simprocAttr]; first | done | rfl)) | rfl)
  · (first | (focus (simp only [go_sem, ↓reduceIte, simprocAttr]; first | done | rfl)) | rfl)
  rintro T ⟨t1, t2, t10⟩
  refine overBack (a := w.ord) (ids := idsL S.L) (hR.ord.grow hG0) hlm t10 (by decide) (by decide) (fun m H' => Grow H H' ∧ H.length + 1 < H'.length ∧ H'[H.length]? = some (.cells [[bv false]] 4) ∧ ∀ i x, m ≤ i → S.L[i]? = some x → loose x = false)
    (fun H1 => ∃ j w', lastL S.L S.L.length = some j ∧ Rep H1 F w' (S.press j) ∧ Fr F H H1 ∧ w'.ord = w.ord ∧ H1[H.length]? = some (.cells [[bv true]] 4)) ?_ ?_ ?_ ?_ ?_
  · rintro o m v j H' he ⟨hG, _⟩
    obtain ⟨v0, h0, _⟩ := hR.ord.blk he
    rcases Classical.em (A[o]? = some (.cells (ints v) 2)) with h | h
    · left; rw [hG.get h0, ← hG0.get h0]; exact h
    · exact .inr h
  · intro ob
    refine ⟨hG0.app _, by simp [hAl], (held hA0).2.1 _, fun i x hi hx => ?_⟩
    rw [hil] at hi
    have := (List.getElem?_eq_some_iff.1 hx).1
    omega
  · rintro lp j p H1 hp ⟨hG, hl1, hc, hno⟩ hlp
    obtain ⟨h, hj, hid⟩ : ∃ h, S.L[j]? = some h ∧ h.r.id = p := by
      unfold idsL at hp
      rw [List.getElem?_map] at hp
      cases e : S.L[j]? with
      | none => rw [e] at hp; cases hp
      | some h => rw [e] at hp; cases hp; exact ⟨h, rfl, rfl⟩
    have hjl : j < S.L.length := (List.getElem?_eq_some_iff.1 hj).1
    have hfh := findH_at hg.nd hj
    have hrec : getM w.kr p = some (.agg h.r.cs) := by rw [hR.mr.get, ← hid]; unfold recF; rw [hfh]; rfl
    have hsm : (getM w.ks p).getD (iv 0) = iv (if h.sm then 1 else 0) := by rw [hR.ms.get, ← hid]; unfold smF; rw [hfh]; cases e : h.sm <;> simp [e]
    repeat' (first | refine spD (fun _ => ?_) (fun _ => ?_) | refine spF (fun _ => ?_) (fun _ => ?_) | (apply gT; (exact rfl)) | (apply off; (exact rfl); (exact rfl)) | (apply condT; (exact rfl)) | (apply condF; (exact rfl)) | ((first | (apply stp0; (exact rfl); (exact rfl)) | (apply stpN0; (exact rfl)) | apply gT | apply condT | ((first | apply bodyQ_d0 | apply bodyQ_d1 | apply bodyQ_d2 | apply bodyQ_d3 | apply bodyQ_d4); (exact .inr rfl); (rw [Try.results60]))); (first | (focus (simp only [go_sem, ↓reduceIte, simprocAttr, t1, t2, t10] <;> rfl)) | exact rfl); (first | (fail_if_success (show okD _ _ _ _ _ _ _ _ _)) | (first | exact okT | exact okN | exact okE rfl)); (first | (fail_if_success (show Bel _ _)) | (focus first | exact .val _ | (simp [oneOf, Bel_iff_tup, Bel_iff_agg, Bel_iff_rsl, Bel_iff_fn, Bel_iff_rptr, Bel_val]; done)))) | refine thenQ_n ?_ | refine thenQ_r ?_ | refine thenQ_e ?_ | refine blockQ_n ?_ | refine blockQ_r ?_ | refine blockQ_e ?_ | (apply blockQ_o; (exact rfl)) | refine Awp.seq ?_ | refine Awp.skip ?_ | refine Awp.block ?_ | refine reg (fun s => s == 2 || s == 5) ?_ | (apply drwE mixed (fun s => s == 2 || s == 5); (kernel_rfl)) | refine fin ?_ | refine Awp.ret ?_ | refine Awp.exit ?_ | ((first | (apply off; (exact rfl)) | apply condF); (first | (focus (simp only [go_sem, ↓reduceIte, simprocAttr, t1, t2, t10] <;> rfl)) | exact rfl)))
    refine ⟨rfl, rfl, ?_⟩
    have hgs : Grow H (H1.set A.length (lp .busy)) := hG.set (by omega) _
    have hbs := hgs.get hR.raw.hb
    simp only [Rw.cs] at hbs
    have hl : A.length = H.length + 1 := hAl
    rw [hl] at hlp hgs hbs ⊢
    have hc2 : (H1.set (H.length + 1) (lp .busy))[H.length]? = some (.cells [[bv false]] 4) := by rw [List.getElem?_set_ne (by omega)]; exact hc
    have hlb : (H1.set (H.length + 1) (lp .busy))[H.length + 1]? = some (lp .busy) := List.getElem?_set_self hl1
    generalize H1.set (H.length + 1) (lp .busy) = B at *
    have l1 := (mT40.look0 (hgs.get hR.raw.hr) p).2
    rw [hrec] at l1
    simp only [Option.getD_some, Item.cs] at l1
    have l2 : ∀ X, lookA Try.prog 106 (.mp F.s) (iv p) false (B ++ X) = some (iv (if h.sm then 1 else 0)) := fun X => by rw [(mT106.look0 ((hgs.app X).get hR.raw.hs) p).2, hsm]
    have hbs2 := held hbs
    repeat' ((fail_if_success (apply stopR (id := 4))); (fail_if_success (apply stopS (id := 4))); first | refine spD (fun _ => ?_) (fun _ => ?_) | refine spF (fun _ => ?_) (fun _ => ?_) | (apply gT; (exact rfl)) | (apply off; (exact rfl); (exact rfl)) | (apply condT; (exact rfl)) | (apply condF; (exact rfl)) | ((first | (apply stp0; (exact rfl); (exact rfl)) | (apply stpN0; (exact rfl)) | apply gT | apply condT | ((first | apply bodyQ_d0 | apply bodyQ_d1 | apply bodyQ_d2 | apply bodyQ_d3 | apply bodyQ_d4); (exact .inr rfl); (rw [Try.results60]))); (first | (focus (simp only [go_sem, ↓reduceIte, simprocAttr, t1, t2, t10, hbs, hbs2, l1, l2] <;> rfl)) | exact rfl); (first | (fail_if_success (show okD _ _ _ _ _ _ _ _ _)) | (first | exact okT | exact okN | exact okE rfl)); (first | (fail_if_success (show Bel _ _)) | (focus first | exact .val _ | (simp [oneOf, Bel_iff_tup, Bel_iff_agg, Bel_iff_rsl, Bel_iff_fn, Bel_iff_rptr, Bel_val]; done)))) | refine thenQ_n ?_ | refine thenQ_r ?_ | refine thenQ_e ?_ | refine blockQ_n ?_ | refine blockQ_r ?_ | refine blockQ_e ?_ | (apply blockQ_o; (exact rfl)) | refine Awp.seq ?_ | refine Awp.skip ?_ | refine Awp.block ?_ | refine reg (fun s => s == 2 || s == 5) ?_ | (apply drwE mixed (fun s => s == 2 || s == 5); (kernel_rfl)) | refine fin ?_ | refine Awp.ret ?_ | refine Awp.exit ?_ | ((first | (apply off; (exact rfl)) | apply condF); (first | (focus (simp only [go_sem, ↓reduceIte, simprocAttr, t1, t2, t10, hbs, hbs2, l1, l2] <;> rfl)) | exact rfl)))
    all_goals first | contradiction | (exfalso; omega) | skip
    refine Awp.withT (fun T' => T' 1 = .rptr [.mptr F.b 0 0] 0 ∧ T' 2 = .mptr H.length 0 0 ∧ T' 4 = iv p ∧ T' 5 = .mptr B.length 0 0) ⟨?_, ?_, ?_, ?_⟩ ?_
    · (first | (focus (simp only [go_sem, ↓reduceIte, simprocAttr, t1]; first | done | rfl)) | rfl)
    · (first | (focus (simp only [go_sem, ↓reduceIte, simprocAttr, t2]; first | done | rfl)) | rfl)
    · (first | (focus (simp only [go_sem, ↓reduceIte, simprocAttr]; first | done | rfl)) | rfl)
    · (first | (focus (simp only [go_sem, ↓reduceIte, simprocAttr]; first | done | rfl)) | rfl)
    clear t1 t2 t10 T hbs2 hbs l1
    rintro T ⟨t1, t2, t4, t5⟩
    have l3 := l2 [.cells [[iv h.r.id, iv h.r.cls, iv h.r.made, iv h.r.size, iv h.r.pk]] 23]
    have hgC := hgs.app [.cells [[iv h.r.id, iv h.r.cls, iv h.r.made, iv h.r.size, iv h.r.pk]] 23]
    have hcC := (held hc2).2.1 [.cells [[iv h.r.id, iv h.r.cls, iv h.r.made, iv h.r.size, iv h.r.pk]] 23]
    have hlC := (held hlb).2.1 [.cells [[iv h.r.id, iv h.r.cls, iv h.r.made, iv h.r.size, iv h.r.pk]] 23]
    have h5C := get_new B (.cells [[iv h.r.id, iv h.r.cls, iv h.r.made, iv h.r.size, iv h.r.pk]] 23)
    have hCl : (B ++ [AObj.cells [[iv h.r.id, iv h.r.cls, iv h.r.made, iv h.r.size, iv h.r.pk]] 23]).length = B.length + 1 := by simp
    have hBl := (List.getElem?_eq_some_iff.1 hlb).1
    generalize B ++ [AObj.cells [[iv h.r.id, iv h.r.cls, iv h.r.made, iv h.r.size, iv h.r.pk]] 23] = C at *
    have hRC := hR.raw.grow hgC
    have hbC := hRC.hb
    simp only [Rw.cs] at hbC
    cases hsm2 : h.sm with
    | true =>
      rw [hsm2, if_pos rfl] at l3
      have n1 : ¬ (1 : Int) = 0 := by omega
      repeat' (first | refine spD (fun _ => ?_) (fun _ => ?_) | refine spF (fun _ => ?_) (fun _ => ?_) | (apply gT; (exact rfl)) | (apply off; (exact rfl); (exact rfl)) | (apply condT; (exact rfl)) | (apply condF; (exact rfl)) | ((first | (apply stp0; (exact rfl); (exact rfl)) | (apply stpN0; (exact rfl)) | apply gT | apply condT | ((first | apply bodyQ_d0 | apply bodyQ_d1 | apply bodyQ_d2 | apply bodyQ_d3 | apply bodyQ_d4); (exact .inr rfl); (rw [Try.results60]))); (first | (focus (simp only [go_sem, ↓reduceIte, simprocAttr, t1, t2, t4, t5, hbC, l3, n1] <;> rfl)) | exact rfl); (first | (fail_if_success (show okD _ _ _ _ _ _ _ _ _)) | (first | exact okT | exact okN | exact okE rfl)); (first | (fail_if_success (show Bel _ _)) | (focus first | exact .val _ | (simp [oneOf, Bel_iff_tup, Bel_iff_agg, Bel_iff_rsl, Bel_iff_fn, Bel_iff_rptr, Bel_val]; done)))) | refine thenQ_n ?_ | refine thenQ_r ?_ | refine thenQ_e ?_ | refine blockQ_n ?_ | refine blockQ_r ?_ | refine blockQ_e ?_ | (apply blockQ_o; (exact rfl)) | refine Awp.seq ?_ | refine Awp.skip ?_ | refine Awp.block ?_ | refine reg (fun s => s == 2 || s == 5) ?_ | (apply drwE mixed (fun s => s == 2 || s == 5); (kernel_rfl)) | refine fin ?_ | refine Awp.ret ?_ | refine Awp.exit ?_ | ((first | (apply off; (exact rfl)) | apply condF); (first | (focus (simp only [go_sem, ↓reduceIte, simprocAttr, t1, t2, t4, t5, hbC, l3, n1] <;> rfl)) | exact rfl)))
      all_goals first | contradiction | (exfalso; omega) | skip
      refine ⟨hlC, hgC.set (by omega) _, by simp; omega, by rw [List.getElem?_set_ne (by omega)]; exact hcC, fun i x hi hx => ?_⟩
      by_cases e : i = j
      · subst e; rw [hj] at hx; cases hx; simp [loose, hsm2]
      · exact hno i x (by omega) hx
    | false =>
      rw [hsm2, if_neg (by simp)] at l3
      by_cases hp2 : h.r.pk < h.r.size
      · have hlo : loose h = true := by simp [loose, hsm2, hp2]
        have hla := lastL_at hj hlo hjl fun i x hi _ hx => hno i x (by omega) hx
        have hok := hg.ok h (List.mem_of_getElem? hj)
        simp only [Item.ok] at hok
        have hus := hg.used
        have hlen := hg.len
        have w1 : IntKind.i64.wrap (h.r.size - h.r.pk) = h.r.size - h.r.pk := w64 (by omega) (by omega)
        have w2 : IntKind.i64.wrap (w.used - (h.r.size - h.r.pk)) = w.used - (h.r.size - h.r.pk) := by rw [hR.used]; exact w64 (by omega) (by omega)
        have u1 := mT106.upd hRC.hs p (iv 1)
        obtain ⟨R1, F1⟩ := hRC.setS (setM p (iv 1) w.ks)
        obtain ⟨R2, F2⟩ := R1.setB (w.used - (h.r.size - h.r.pk)) w.time w.ord
        have b1 := R1.hb
        have b2 := R2.hb
        simp only [Rw.cs] at b1 b2
        have n5 : F.s ≠ B.length := by have := hgs.len; omega
        have n6 : F.b ≠ B.length := by have := hgs.len; omega
        have h5D := (heldO n5 h5C).1 (.amap (ents (setM p (iv 1) w.ks)))
        have hcD := (heldO (show F.b ≠ H.length by omega) ((heldO (show F.s ≠ H.length by omega) hcC).1 (.amap (ents (setM p (iv 1) w.ks))))).1 (.cells [[iv w.cap, iv (w.used - (h.r.size - h.r.pk)), iv w.time, w.ord, .mp F.r, .mp F.s, .mp F.t]] 109)
        have hlD := (heldO (show F.b ≠ H.length + 1 by omega) ((heldO (show F.s ≠ H.length + 1 by omega) hlC).1 (.amap (ents (setM p (iv 1) w.ks))))).1 (.cells [[iv w.cap, iv (w.used - (h.r.size - h.r.pk)), iv w.time, w.ord, .mp F.r, .mp F.s, .mp F.t]] 109)
        repeat' ((fail_if_success (apply stopR (id := 7))); (fail_if_success (apply stopS (id := 7))); first | refine spD (fun _ => ?_) (fun _ => ?_) | refine spF (fun _ => ?_) (fun _ => ?_) | (apply gT; (exact rfl)) | (apply off; (exact rfl); (exact rfl)) | (apply condT; (exact rfl)) | (apply condF; (exact rfl)) | ((first | (apply stp0; (exact rfl); (exact rfl)) | (apply stpN0; (exact rfl)) | apply gT | apply condT | ((first | apply bodyQ_d0 | apply bodyQ_d1 | apply bodyQ_d2 | apply bodyQ_d3 | apply bodyQ_d4); (exact .inr rfl); (rw [Try.results60]))); (first | (focus (simp only [go_sem, ↓reduceIte, simprocAttr, t1, t2, t4, t5, hbC, l3, hp2, h5C, u1, b1, h5D, w1, w2] <;> rfl)) | exact rfl); (first | (fail_if_success (show okD _ _ _ _ _ _ _ _ _)) | (first | exact okT | exact okN | exact okE rfl)); (first | (fail_if_success (show Bel _ _)) | (focus first | exact .val _ | (simp [oneOf, Bel_iff_tup, Bel_iff_agg, Bel_iff_rsl, Bel_iff_fn, Bel_iff_rptr, Bel_val]; done)))) | refine thenQ_n ?_ | refine thenQ_r ?_ | refine thenQ_e ?_ | refine blockQ_n ?_ | refine blockQ_r ?_ | refine blockQ_e ?_ | (apply blockQ_o; (exact rfl)) | refine Awp.seq ?_ | refine Awp.skip ?_ | refine Awp.block ?_ | refine reg (fun s => s == 2 || s == 5) ?_ | (apply drwE mixed (fun s => s == 2 || s == 5); (kernel_rfl)) | refine fin ?_ | refine Awp.ret ?_ | refine Awp.exit ?_ | ((first | (apply off; (exact rfl)) | apply condF); (first | (focus (simp only [go_sem, ↓reduceIte, simprocAttr, t1, t2, t4, t5, hbC, l3, hp2, h5C, u1, b1, h5D, w1, w2] <;> rfl)) | exact rfl)))
        all_goals first | contradiction | (exfalso; omega) | skip
        have hpr : S.press j = { S with used := S.used - (h.r.size - h.r.pk), L := S.L.set j { h with sm := true } } := by unfold Bf.press; rw [hj]
        have q1 : OrdAt ((C.set F.s (.amap (ents (setM p (iv 1) w.ks)))).set F.b (.cells [[iv w.cap, iv (w.used - (h.r.size - h.r.pk)), iv w.time, w.ord, .mp F.r, .mp F.s, .mp F.t]] 109)) w.ord (idsL (S.press j).L) := by
          rw [hpr]
          show OrdAt _ w.ord (idsL (S.L.set j { h with sm := true }))
          rw [idsL_set (h' := { h with sm := true }) hj rfl]
          exact ((hR.ord.grow hgC).set hRC.hs (fun v => amap_ne v) _).set R1.hb (fun v => b109_ne v) _
        have q2 : MapIs w.kr (recF (S.press j).L) := hR.mr.congr fun y => by
          rw [hpr]
          show recF (S.L.set j { h with sm := true }) y = recF S.L y
          unfold recF; rw [findH_set (h := h) (h' := { h with sm := true }) rfl y hg.nd hj]
          split
          · rename_i e; rw [e, hfh]; rfl
          · rfl
        have q3 : MapIs (setM p (iv 1) w.ks) (smF (S.press j).L) := hR.ms.set p (iv 1) fun y => by
          rw [hpr]
          show smF (S.L.set j { h with sm := true }) y = _
          unfold smF; rw [findH_set (h := h) (h' := { h with sm := true }) rfl y hg.nd hj, hid]
          split
          · rfl
          · rfl
        have q4 : MapIs w.kt (stF (S.press j).L) := hR.mt.congr fun y => by
          rw [hpr]
          show stF (S.L.set j { h with sm := true }) y = stF S.L y
          unfold stF; rw [findH_set (h := h) (h' := { h with sm := true }) rfl y hg.nd hj]
          split
          · rename_i e; rw [e, hfh]; rfl
          · rfl
        have hRD := Rep.mk (S := S.press j) R2 (by rw [hpr]; exact hR.cap) (by rw [hpr]; show w.used - _ = S.used - _; rw [hR.used]) (by rw [hpr]; exact hR.time) q1 q2 q3 q4
        have hFD := (hgC.fr (F := F)).trans (F1.trans F2)
        clear R1 R2 F1 F2 u1 b1 b2 h5D
        repeat' (first | refine spD (fun _ => ?_) (fun _ => ?_) | refine spF (fun _ => ?_) (fun _ => ?_) | (apply gT; (exact rfl)) | (apply off; (exact rfl); (exact rfl)) | (apply condT; (exact rfl)) | (apply condF; (exact rfl)) | ((first | (apply stp0; (exact rfl); (exact rfl)) | (apply stpN0; (exact rfl)) | apply gT | apply condT | ((first | apply bodyQ_d0 | apply bodyQ_d1 | apply bodyQ_d2 | apply bodyQ_d3 | apply bodyQ_d4); (exact .inr rfl); (rw [Try.results60]))); (first | (focus (simp only [go_sem, ↓reduceIte, simprocAttr, t1, t2, t4, t5, hcD] <;> rfl)) | exact rfl); (first | (fail_if_success (show okD _ _ _ _ _ _ _ _ _)) | (first | exact okT | exact okN | exact okE rfl)); (first | (fail_if_success (show Bel _ _)) | (focus first | exact .val _ | (simp [oneOf, Bel_iff_tup, Bel_iff_agg, Bel_iff_rsl, Bel_iff_fn, Bel_iff_rptr, Bel_val]; done)))) | refine thenQ_n ?_ | refine thenQ_r ?_ | refine thenQ_e ?_ | refine blockQ_n ?_ | refine blockQ_r ?_ | refine blockQ_e ?_ | (apply blockQ_o; (exact rfl)) | refine Awp.seq ?_ | refine Awp.skip ?_ | refine Awp.block ?_ | refine reg (fun s => s == 2 || s == 5) ?_ | (apply drwE mixed (fun s => s == 2 || s == 5); (kernel_rfl)) | refine fin ?_ | refine Awp.ret ?_ | refine Awp.exit ?_ | ((first | (apply off; (exact rfl)) | apply condF); (first | (focus (simp only [go_sem, ↓reduceIte, simprocAttr, t1, t2, t4, t5, hcD] <;> rfl)) | exact rfl)))
        all_goals first | contradiction | (exfalso; omega) | skip
        refine ⟨by rw [List.getElem?_set_ne (by omega)]; exact hlD, j, _, hla, hR.hi (hR.hi hRD rfl (Nat.le_refl _) _) rfl (by omega) _, (hFD.hi (Nat.le_refl _) _).hi (by omega) _, rfl, ?_⟩
        rw [List.getElem?_set_ne (by omega)]
        exact (heldS hcD).1 _
      · repeat' (first | refine spD (fun _ => ?_) (fun _ => ?_) | refine spF (fun _ => ?_) (fun _ => ?_) | (apply gT; (exact rfl)) | (apply off; (exact rfl); (exact rfl)) | (apply condT; (exact rfl)) | (apply condF; (exact rfl)) | ((first | (apply stp0; (exact rfl); (exact rfl)) | (apply stpN0; (exact rfl)) | apply gT | apply condT | ((first | apply bodyQ_d0 | apply bodyQ_d1 | apply bodyQ_d2 | apply bodyQ_d3 | apply bodyQ_d4); (exact .inr rfl); (rw [Try.results60]))); (first | (focus (simp only [go_sem, ↓reduceIte, simprocAttr, t1, t2, t4, t5, hbC, l3, hp2, h5C] <;> rfl)) | exact rfl); (first | (fail_if_success (show okD _ _ _ _ _ _ _ _ _)) | (first | exact okT | exact okN | exact okE rfl)); (first | (fail_if_success (show Bel _ _)) | (focus first | exact .val _ | (simp [oneOf, Bel_iff_tup, Bel_iff_agg, Bel_iff_rsl, Bel_iff_fn, Bel_iff_rptr, Bel_val]; done)))) | refine thenQ_n ?_ | refine thenQ_r ?_ | refine thenQ_e ?_ | refine blockQ_n ?_ | refine blockQ_r ?_ | refine blockQ_e ?_ | (apply blockQ_o; (exact rfl)) | refine Awp.seq ?_ | refine Awp.skip ?_ | refine Awp.block ?_ | refine reg (fun s => s == 2 || s == 5) ?_ | (apply drwE mixed (fun s => s == 2 || s == 5); (kernel_rfl)) | refine fin ?_ | refine Awp.ret ?_ | refine Awp.exit ?_ | ((first | (apply off; (exact rfl)) | apply condF); (first | (focus (simp only [go_sem, ↓reduceIte, simprocAttr, t1, t2, t4, t5, hbC, l3, hp2, h5C] <;> rfl)) | exact rfl)))
        all_goals first | contradiction | (exfalso; omega) | skip
        refine ⟨hlC, hgC.set (by omega) _, by simp; omega, by rw [List.getElem?_set_ne (by omega)]; exact hcC, fun i x hi hx => ?_⟩
        by_cases e : i = j
        · subst e; rw [hj] at hx; cases hx; simp [loose, hp2]
        · exact hno i x (by omega) hx
  · rintro H1 ob ⟨hG, hl1, hc, hno⟩ hob
    have hc2 : (H1.set A.length .dead)[H.length]? = some (.cells [[bv false]] 4) := by rw [List.getElem?_set_ne (by omega)]; exact hc
    have hG2 := hG.set (show H.length ≤ A.length by omega) .dead
    generalize H1.set A.length .dead = B at *
    have hc3 := (heldS hc2).1 (.cells [[bv false]] 4)
    repeat' (first | refine spD (fun _ => ?_) (fun _ => ?_) | refine spF (fun _ => ?_) (fun _ => ?_) | (apply gT; (exact rfl)) | (apply off; (exact rfl); (exact rfl)) | (apply condT; (exact rfl)) | (apply condF; (exact rfl)) | ((first | (apply stp0; (exact rfl); (exact rfl)) | (apply stpN0; (exact rfl)) | apply gT | apply condT | ((first | apply bodyQ_d0 | apply bodyQ_d1 | apply bodyQ_d2 | apply bodyQ_d3 | apply bodyQ_d4); (exact .inr rfl); (rw [Try.results60]))); (first | (focus (simp only [go_sem, ↓reduceIte, simprocAttr, t1, t2, t10, hc2] <;> rfl)) | exact rfl); (first | (fail_if_success (show okD _ _ _ _ _ _ _ _ _)) | (first | exact okT | exact okN | exact okE rfl)); (first | (fail_if_success (show Bel _ _)) | (focus first | exact .val _ | (simp [oneOf, Bel_iff_tup, Bel_iff_agg, Bel_iff_rsl, Bel_iff_fn, Bel_iff_rptr, Bel_val]; done)))) | refine thenQ_n ?_ | refine thenQ_r ?_ | refine thenQ_e ?_ | refine blockQ_n ?_ | refine blockQ_r ?_ | refine blockQ_e ?_ | (apply blockQ_o; (exact rfl)) | refine Awp.seq ?_ | refine Awp.skip ?_ | refine Awp.block ?_ | refine reg (fun s => s == 2 || s == 5) ?_ | (apply drwE mixed (fun s => s == 2 || s == 5); (kernel_rfl)) | refine fin ?_ | refine Awp.ret ?_ | refine Awp.exit ?_ | ((first | (apply off; (exact rfl)) | apply condF); (first | (focus (simp only [go_sem, ↓reduceIte, simprocAttr, t1, t2, t10, hc2] <;> rfl)) | exact rfl)))
    all_goals first | contradiction | (exfalso; omega) | skip
    refine bodyQ_mk (vs := [bv false]) (.inr rfl) ?_ (Vs.refl _ _ _) (.inl ⟨lastL_none fun i x hi hx => hno i x (Nat.zero_le _) hx, rfl, hG2.set (Nat.le_refl _) _⟩)
    rw [Try.results60]; first | (simp only [go_sem, ↓reduceIte, simprocAttr, t2, hc3]; done) | (simp only [go_sem, ↓reduceIte, simprocAttr, t2, hc3]; rfl)
  · rintro H1 ⟨j, w', hj, hR', hF, ho, hc⟩
    repeat' (first | refine spD (fun _ => ?_) (fun _ => ?_) | refine spF (fun _ => ?_) (fun _ => ?_) | (apply gT; (exact rfl)) | (apply off; (exact rfl); (exact rfl)) | (apply condT; (exact rfl)) | (apply condF; (exact rfl)) | ((first | (apply stp0; (exact rfl); (exact rfl)) | (apply stpN0; (exact rfl)) | apply gT | apply condT | ((first | apply bodyQ_d0 | apply bodyQ_d1 | apply bodyQ_d2 | apply bodyQ_d3 | apply bodyQ_d4); (exact .inr rfl); (rw [Try.results60]))); (first | (focus (simp only [go_sem, ↓reduceIte, simprocAttr, t1, t2, t10, hc] <;> rfl)) | exact rfl); (first | (fail_if_success (show okD _ _ _ _ _ _ _ _ _)) | (first | exact okT | exact okN | exact okE rfl)); (first | (fail_if_success (show Bel _ _)) | (focus first | exact .val _ | (simp [oneOf, Bel_iff_tup, Bel_iff_agg, Bel_iff_rsl, Bel_iff_fn, Bel_iff_rptr, Bel_val]; done)))) | refine thenQ_n ?_ | refine thenQ_r ?_ | refine thenQ_e ?_ | refine blockQ_n ?_ | refine blockQ_r ?_ | refine blockQ_e ?_ | (apply blockQ_o; (exact rfl)) | refine Awp.seq ?_ | refine Awp.skip ?_ | refine Awp.block ?_ | refine reg (fun s => s == 2 || s == 5) ?_ | (apply drwE mixed (fun s => s == 2 || s == 5); (kernel_rfl)) | refine fin ?_ | refine Awp.ret ?_ | refine Awp.exit ?_ | ((first | (apply off; (exact rfl)) | apply condF); (first | (focus (simp only [go_sem, ↓reduceIte, simprocAttr, t1, t2, t10, hc] <;> rfl)) | exact rfl)))
    all_goals first | contradiction | (exfalso; omega) | skip
    refine bodyQ_mk (vs := [bv true]) (.inr rfl) ?_ (Vs.refl _ _ _) (.inr ⟨j, w', hj, rfl, hR', hF, ho⟩)
    rw [Try.results60]; first | (simp only [go_sem, ↓reduceIte, simprocAttr, t2, hc]; done) | (simp only [go_sem, ↓reduceIte, simprocAttr, t2, hc]; rfl)

end Go.Proofs.Ytlhchnnfgppneaa.Ab
