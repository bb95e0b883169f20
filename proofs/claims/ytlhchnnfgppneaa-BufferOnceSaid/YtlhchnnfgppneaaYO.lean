/- Buffers: bursts, plain. The law BufferOnce: plain facts. Buffers and inboxes side by side. A region that draws its order, by an invariant, with calls whose ends are told by a property; the program's Ack. The program's Ack. -/
import Derived.Test.YtlhchnnfgppneaaYN
import Derived.Test.YtlhchnnfgppneaaYM
import Derived.Test.YtlhchnnfgppneaaYJ
namespace Go.Proofs.Ytlhchnnfgppneaa.Ab
open Go Go.RowKit Go.Proofs
set_option linter.unusedSimpArgs false
set_option linter.unusedVariables false
attribute [local irreducible] Awp wpO thenQ blockQ bodyQ ACalls stepA

/-- one record of a burst: what room is left, what has been sent -/
def bstep (t wt : Int) (s : Int × List Int) (h : Hd) : Int × List Int := if dueB t wt h = true ∧ h.bytes ≤ s.1 then (s.1 - h.bytes, s.2 ++ [h.r.id]) else s
def bst (t wt : Int) (L : List Hd) (room : Int) : Int × List Int := L.foldl (bstep t wt) (room, [])
theorem bst_succ {t wt : Int} {L : List Hd} {room : Int} {i : Nat} {h : Hd} (hi : L[i]? = some h) : bst t wt (L.take (i + 1)) room = bstep t wt (bst t wt (L.take i) room) h := by
  unfold bst
  rw [List.take_add_one, hi, List.foldl_append]
  rfl
theorem bst_mem {t wt : Int} : ∀ (L : List Hd) (s : Int × List Int) (x : Int), x ∈ (L.foldl (bstep t wt) s).2 → x ∈ s.2 ∨ x ∈ idsL L := by
  intro L
  induction L with
  | nil => intro s x h; exact .inl h
  | cons h l ih =>
    intro s x hx
    rcases ih _ x hx with k | k
    · unfold bstep at k
      split at k
      · rcases List.mem_append.1 k with m | m
        · exact .inl m
        · right; simp at m; subst m; simp [idsL]
      · exact .inl k
    · right; simp [idsL] at k ⊢; exact .inr k
theorem bst_ext {t wt : Int} : ∀ (L : List Hd) (s : Int × List Int), ∃ m, (L.foldl (bstep t wt) s).2 = s.2 ++ m ∧ ∀ x ∈ m, x ∈ idsL L := by
  intro L
  induction L with
  | nil => intro s; exact ⟨[], by simp, by simp⟩
  | cons h l ih =>
    intro s
    obtain ⟨m, e, hm⟩ := ih (bstep t wt s h)
    by_cases c : dueB t wt h = true ∧ h.bytes ≤ s.1
    · refine ⟨h.r.id :: m, ?_, ?_⟩
      · show (l.foldl (bstep t wt) (bstep t wt s h)).2 = _
        rw [e]; unfold bstep; rw [if_pos c]; simp
      · intro x hx
        rcases List.mem_cons.1 hx with rfl | hx
        · simp [idsL]
        · have := hm x hx; simp [idsL] at this ⊢; exact .inr this
    · refine ⟨m, ?_, fun x hx => ?_⟩
      · show (l.foldl (bstep t wt) (bstep t wt s h)).2 = _
        rw [e]; unfold bstep; rw [if_neg c]
      · have := hm x hx; simp [idsL] at this ⊢; exact .inr this
theorem bst_all {t wt : Int} {L : List Hd} {room : Int} {i : Nat} (hi : i ≤ L.length) : ∃ m, (bst t wt L room).2 = (bst t wt (L.take i) room).2 ++ m ∧ ∀ x ∈ m, x ∈ idsL (L.drop i) := by
  have e : bst t wt L room = (L.drop i).foldl (bstep t wt) (bst t wt (L.take i) room) := by
    unfold bst
    rw [← List.foldl_append, List.take_append_drop]
  rw [e]; exact bst_ext _ _
theorem bst_len {t wt : Int} : ∀ (L : List Hd) (s : Int × List Int), (L.foldl (bstep t wt) s).2.length ≤ s.2.length + L.length := by
  intro L
  induction L with
  | nil => intro s; simp
  | cons h l ih =>
    intro s
    have := ih (bstep t wt s h)
    show (l.foldl (bstep t wt) (bstep t wt s h)).2.length ≤ _
    have k : (bstep t wt s h).2.length ≤ s.2.length + 1 := by unfold bstep; split <;> simp
    simp; omega
theorem bst_room {t wt : Int} : ∀ (L : List Hd) (s : Int × List Int), (∀ h ∈ L, h.r.ok) → 0 ≤ s.1 → 0 ≤ (L.foldl (bstep t wt) s).1 ∧ (L.foldl (bstep t wt) s).1 ≤ s.1 := by
  intro L
  induction L with
  | nil => intro s _ h; exact ⟨h, Int.le_refl _⟩
  | cons h l ih =>
    intro s hk h0
    have h2 := hk h (by simp)
    simp only [Item.ok] at h2
    have hb : 1 ≤ h.bytes := by unfold Hd.bytes; split <;> omega
    have key : 0 ≤ (bstep t wt s h).1 ∧ (bstep t wt s h).1 ≤ s.1 := by
      unfold bstep
      split
      · rename_i c; show 0 ≤ s.1 - h.bytes ∧ s.1 - h.bytes ≤ s.1; omega
      · exact ⟨h0, Int.le_refl _⟩
    have := ih (bstep t wt s h) (fun y hy => hk y (by simp [hy])) key.1
    show 0 ≤ (l.foldl (bstep t wt) (bstep t wt s h)).1 ∧ (l.foldl (bstep t wt) (bstep t wt s h)).1 ≤ s.1
    omega

/-- records that have been sent -/
def mkS (t : Int) (o : List Int) (h : Hd) : Hd := if h.r.id ∈ o then { h with sent := t } else h
theorem mkS_r (t : Int) (o : List Int) (h : Hd) : (mkS t o h).r = h.r := by unfold mkS; split <;> rfl
theorem mkS_bytes (t : Int) (o : List Int) (h : Hd) : (mkS t o h).bytes = h.bytes := by unfold mkS; split <;> rfl
theorem mkS_sm (t : Int) (o : List Int) (h : Hd) : (mkS t o h).sm = h.sm := by unfold mkS; split <;> rfl
theorem mkS_sent (t : Int) (o : List Int) (h : Hd) : (mkS t o h).sent = if h.r.id ∈ o then t else h.sent := by unfold mkS; split <;> rfl
theorem idsL_mk (t : Int) (o : List Int) (L : List Hd) : idsL (L.map (mkS t o)) = idsL L := by
  unfold idsL
  rw [List.map_map]
  exact List.map_congr_left fun h _ => by simp only [Function.comp, mkS_r]
theorem findH_mk (t : Int) (o : List Int) (y : Int) : ∀ L : List Hd, findH (L.map (mkS t o)) y = (findH L y).map (mkS t o) := by
  intro L
  induction L with
  | nil => rfl
  | cons h l ih =>
    show (if y = (mkS t o h).r.id then some (mkS t o h) else findH (l.map (mkS t o)) y) = Option.map (mkS t o) (if y = h.r.id then some h else findH l y)
    rw [mkS_r, ih]
    split <;> rfl
def Bf.mark (S : Bf) (t : Int) (o : List Int) : Bf := { S with time := t, L := S.L.map (mkS t o) }
theorem Good.mark {S : Bf} (h : Good S) (t : Int) (o : List Int) : Good (S.mark t o) := by
  refine ⟨by show (idsL (S.L.map (mkS t o))).Nodup; rw [idsL_mk]; exact h.nd, fun x hx => ?_, ?_, by show (S.L.map (mkS t o)).length ≤ 257; rw [List.length_map]; exact h.len, h.cap, ?_⟩
  · obtain ⟨y, hy, rfl⟩ := List.mem_map.1 hx
    rw [mkS_r]; exact h.ok y hy
  · show S.used = ((S.L.map (mkS t o)).map Hd.bytes).sum
    rw [List.map_map, h.sum]
    congr 1
    exact List.map_congr_left fun x _ => by simp only [Function.comp, mkS_bytes]
  · show (S.L.map (mkS t o)).Pairwise _
    rw [List.pairwise_map]
    exact h.srt.imp fun {a b} k => by rw [mkS_r, mkS_r]; exact k
theorem recF_mk (t : Int) (o : List Int) (L : List Hd) (y : Int) : recF (L.map (mkS t o)) y = recF L y := by
  unfold recF; rw [findH_mk]
  cases findH L y with
  | none => rfl
  | some h => simp only [Option.map_some, mkS_r]
theorem smF_mk (t : Int) (o : List Int) (L : List Hd) (y : Int) : smF (L.map (mkS t o)) y = smF L y := by
  unfold smF; rw [findH_mk]
  cases findH L y with
  | none => rfl
  | some h => simp only [Option.map_some, Option.bind_some, mkS_sm]
theorem stF_mk {t : Int} (ht : t ≠ -1) (o : List Int) {L : List Hd} {x : Int} (hx : x ∈ idsL L) (y : Int) : stF (L.map (mkS t (o ++ [x]))) y = if y = x then some (iv t) else stF (L.map (mkS t o)) y := by
  unfold stF
  rw [findH_mk, findH_mk]
  cases e : findH L y with
  | none =>
    have := findH_none.1 e
    rw [if_neg (fun k => this (by rw [k]; exact hx))]; rfl
  | some h =>
    obtain ⟨_, hid⟩ := findH_mem e
    simp only [Option.map_some, Option.bind_some, mkS_sent, hid]
    by_cases k : y = x
    · simp [k, ht]
    · rw [if_neg k]
      have : (y ∈ o ++ [x]) ↔ y ∈ o := by simp [k]
      simp only [this]
theorem stF_mk0 (t : Int) (L : List Hd) (y : Int) : stF (L.map (mkS t [])) y = stF L y := by
  have : ∀ h : Hd, mkS t [] h = h := fun h => by unfold mkS; simp
  rw [show (mkS t []) = id from funext this, List.map_id]

end Go.Proofs.Ytlhchnnfgppneaa.Ab
namespace Go.Proofs.Ytlhchnnfgppneaa.Ab
open Go Go.RowKit Go.Proofs
set_option linter.unusedSimpArgs false
set_option linter.unusedVariables false
attribute [local irreducible] Awp wpO thenQ blockQ bodyQ ACalls stepA

theorem shr_ids : ∀ (k : Nat) {S : Bf} {ds : List Int}, Good S → idsL (shr k S ds).1.L ++ (shr k S ds).2.reverse = idsL S.L ++ ds.reverse
  | 0, S, ds, _ => rfl
  | k + 1, S, ds, hg => by
    by_cases ho : S.over
    · cases hj : nextJ S with
      | some j =>
        rw [shr_press ho hj]
        obtain ⟨_, x, hx, hl⟩ := nextJ_some hj
        rw [shr_ids k (hg.pressG hx hl)]
        congr 1
        rw [press_eq hx]
        exact idsL_set hx rfl
      | none =>
        rw [shr_drop ho hj]
        obtain ⟨x, hx⟩ := over_ne hg ho
        rw [shr_ids k (hg.dropG hx)]
        obtain ⟨d1, d2⟩ := drop_eq hx
        have hs := last_split hx
        rw [d1, d2]
        conv => rhs; rw [hs]
        simp [idsL]
    · unfold shr
      rw [if_neg ho]
/-- what a Put that is not refused does to the IDs -/
theorem put_ids {S : Bf} {r : Item} (hg : Good S) (hl : S.L.length ≤ 255) (hE : putE S r = 0) : (∀ x, x ∈ idsL (putR S r).1.L ∨ x ∈ (putR S r).2 ↔ x = r.id ∨ x ∈ idsL S.L) ∧ (∀ h ∈ (putR S r).1.L, h.r = r ∨ ∃ y ∈ S.L, y.r = h.r) ∧ (∀ h ∈ (putR S r).1.L, h.sent = -1 ∨ ∃ y ∈ S.L, y.sent = h.sent) := by
  have hk := kept hg hl hE
  obtain ⟨hr, hm⟩ : r.ok ∧ r.id ∉ idsL S.L := by
    rcases putE_ok S r with ⟨_, _, h⟩ | ⟨h1, _, ⟨_, h⟩ | ⟨h2, ⟨_, h⟩ | ⟨_, _⟩⟩⟩
    · rw [hE] at h; cases h
    · rw [hE] at h; cases h
    · rw [hE] at h; cases h
    · exact ⟨h1, h2⟩
  have hP : putR S r = shr (S.ins r).mu (S.ins r) [] := by unfold putR; rw [if_pos hE]
  have he := shr_ids (S.ins r).mu (S := S.ins r) (ds := []) (hg.insG (by omega) hr hm)
  rw [← hP] at he
  obtain ⟨hs, _⟩ := shr_spec (S.ins r).mu (Shr.start (hg.insG (by omega) hr hm)) (Nat.le_refl _)
  rw [← hP] at hs
  refine ⟨fun x => ?_, hk.mem, fun h hh => ?_⟩
  rotate_left
  · obtain ⟨k, hk2⟩ := List.getElem?_of_mem hh
    have hkl := (List.getElem?_eq_some_iff.1 hk2).1
    have hlen := hs.len
    obtain ⟨y, hy⟩ := nth (l := (S.ins r).L) (i := k) (by omega)
    have he := (hs.keep k h y hk2 hy).2
    rcases insA_mem.1 (List.mem_of_getElem? hy) with e | e
    · left; rw [he, e]
    · exact .inr ⟨y, e, he.symm⟩
  have h1 : x ∈ idsL (putR S r).1.L ++ (putR S r).2.reverse ↔ x ∈ idsL (S.ins r).L := by rw [he]; simp
  rw [List.mem_append, List.mem_reverse] at h1
  rw [h1]
  show x ∈ idsL (insA _ _ _) ↔ _
  unfold idsL
  rw [insA_map, insA_mem]

/-- what is acknowledged has arrived -/
theorem ack_only (R : List Item) : ∀ i x, isInB (ackT R i) x = true → x ∈ idsR R := by
  intro i
  induction i with
  | zero => intro x h; simp [ackT, isInB] at h
  | succ i ih =>
    intro x hx
    cases h : R[i]? with
    | none =>
      have hle : R.length ≤ i := List.getElem?_eq_none_iff.1 h
      have e : ackT R (i + 1) = ackT R i := by
        unfold ackT
        rw [List.take_of_length_le (by simp [idsR]; omega), List.take_of_length_le (by simp [idsR]; omega)]
      rw [e] at hx; exact ih x hx
    | some r =>
      have hr : r.id ∈ idsR R := List.mem_map.2 ⟨r, List.mem_of_getElem? h, rfl⟩
      rw [ackT_succ h] at hx
      have hone : isInB [(r.id, r.id)] x = true → x ∈ idsR R := fun k => by
        have : x = r.id := by simp [isInB, wthB] at k; omega
        rw [this]; exact hr
      rcases List.eq_nil_or_concat (ackT R i) with e | ⟨l0, q, e⟩
      · rw [e] at hx; exact hone hx
      · rw [List.concat_eq_append] at e
        rw [e] at ih hx
        rw [ackStep_app] at hx
        split at hx
        · rename_i c
          rw [isInB_app, Bool.or_eq_true] at hx
          rcases hx with hx | hx
          · exact ih x (by rw [isInB_app, hx]; rfl)
          · by_cases k : x = r.id
            · rw [k]; exact hr
            · refine ih x ?_
              rw [isInB_app, Bool.or_eq_true]
              right
              simp [isInB, wthB] at hx ⊢
              omega
        · rw [isInB_app, Bool.or_eq_true] at hx
          rcases hx with hx | hx
          · exact ih x hx
          · exact hone hx

/-- a burst with room for all -/
theorem bst_whole {t : Int} : ∀ (L : List Hd) (s : Int × List Int), (∀ h ∈ L, dueB t 0 h = true) → (∀ h ∈ L, 0 ≤ h.bytes) → (L.map Hd.bytes).sum ≤ s.1 → (L.foldl (bstep t 0) s).2 = s.2 ++ idsL L
  | [], s, _, _, _ => by simp [idsL]
  | h :: l, s, hd, hb, hs => by
    have h1 : (l.map Hd.bytes).sum + h.bytes ≤ s.1 := by simp only [List.map_cons, List.sum_cons] at hs; omega
    have hnn : 0 ≤ (l.map Hd.bytes).sum := by
      have : ∀ l : List Hd, (∀ h ∈ l, 0 ≤ h.bytes) → 0 ≤ (l.map Hd.bytes).sum := by
        intro l
        induction l with
        | nil => intro _; exact Int.le_refl _
        | cons x l ih =>
          intro k
          have a := ih fun y hy => k y (by simp [hy])
          have b := k x (by simp)
          simp only [List.map_cons, List.sum_cons]; omega
      exact this l fun y hy => hb y (by simp [hy])
    have e : bstep t 0 s h = (s.1 - h.bytes, s.2 ++ [h.r.id]) := by
      unfold bstep
      rw [if_pos ⟨hd h (by simp), by omega⟩]
    rw [List.foldl_cons, e, bst_whole l _ (fun y hy => hd y (by simp [hy])) (fun y hy => hb y (by simp [hy])) (by simp only; omega)]
    simp [idsL]

/-- between the steps of a round: what is put, what is held, what has arrived, what is gone -/
structure Inv (G : Int → Option Item) (n : Nat) (g : List Bool) (S : Bf) (R : List Item) (t : Int) : Prop where
  g1 : ∀ x r, G x = some r → r.id = x ∧ r.ok ∧ 0 ≤ x ∧ x < n
  hS : ∀ h ∈ S.L, G h.r.id = some h.r
  hR : ∀ r ∈ R, G r.id = some r
  cov : ∀ x r, G x = some r → x ∈ idsL S.L ∨ x ∈ idsR R ∨ g[x.toNat]? = some true
  gl : g.length = 100
  good : Good S
  use : S.used ≤ S.cap
  cap : S.cap ≤ 2000
  tm : 0 ≤ S.time ∧ S.time ≤ t
  snt : ∀ h ∈ S.L, h.sent ≤ S.time
  srt : srtR R
  len : S.L.length ≤ n
theorem srt_ge {R : List Item} (hs : srtR R) (h0 : ∀ r ∈ R, 0 ≤ r.id) : ∀ (i : Nat) (r : Item), R[i]? = some r → (i : Int) ≤ r.id := by
  intro i
  induction i with
  | zero => intro r hr; exact h0 r (List.mem_of_getElem? hr)
  | succ i ih =>
    intro r hr
    have hl := (List.getElem?_eq_some_iff.1 hr).1
    obtain ⟨y, hy⟩ := nth (l := R) (i := i) (by omega)
    have h1 := ih y hy
    have g1 := List.getElem?_eq_some_iff.1 hy
    have g2 := List.getElem?_eq_some_iff.1 hr
    have := List.pairwise_iff_getElem.1 hs i (i + 1) g1.1 g2.1 (by omega)
    rw [g1.2, g2.2] at this
    omega
section
variable {G : Int → Option Item} {n : Nat} {g : List Bool} {S : Bf} {R : List Item} {t : Int}
theorem Inv.rlen (h : Inv G n g S R t) : R.length ≤ n := by
  rcases Nat.eq_zero_or_pos R.length with e | e
  · omega
  · obtain ⟨r, hr⟩ := nth (l := R) (i := R.length - 1) (by omega)
    have h1 := srt_ge h.srt (fun r hr => (h.g1 _ _ (h.hR r hr)).2.2.1) _ r hr
    have h2 := (h.g1 _ _ (h.hR r (List.mem_of_getElem? hr))).2.2.2
    omega
theorem Inv.rok (h : Inv G n g S R t) : ∀ r ∈ R, r.ok := fun r hr => (h.g1 _ _ (h.hR r hr)).2.1
theorem Inv.more {t' : Int} (h : Inv G n g S R t) (ht : t ≤ t') : Inv G n g S R t' := ⟨h.g1, h.hS, h.hR, h.cov, h.gl, h.good, h.use, h.cap, ⟨h.tm.1, by have := h.tm.2; omega⟩, h.snt, h.srt, h.len⟩
theorem Inv.skip (h : Inv G n g S R t) : Inv G (n + 1) g S R t :=
  ⟨fun x r e => by obtain ⟨a, b, c, d⟩ := h.g1 x r e; exact ⟨a, b, c, by omega⟩, h.hS, h.hR, h.cov, h.gl, h.good, h.use, h.cap, h.tm, h.snt, h.srt, by have := h.len; omega⟩
theorem Inv.fresh (h : Inv G n g S R t) : (n : Int) ∉ idsL S.L := fun k => by
  obtain ⟨x, hx, e⟩ := List.mem_map.1 k
  have := (h.g1 _ _ (h.hS x hx)).2.2.2
  have e' : x.r.id = (n : Int) := e
  omega
/-- a record is put; those that are dropped are not yet noted -/
theorem Inv.put (h : Inv G n g S R t) (hn : S.L.length ≤ 255) {y : Item} (hy : y.id = n) (hok : y.ok) (hE : putE S y = 0) {g' : List Bool} (hg' : g'.length = 100) (hd : ∀ d ∈ (putR S y).2, g'[d.toNat]? = some true) (hold : ∀ i : Nat, g[i]? = some true → g'[i]? = some true) :
    Inv (fun x => if x = n then some y else G x) (n + 1) g' (putR S y).1 R t := by
  obtain ⟨p1, p2, p3⟩ := put_ids h.good hn hE
  have hk := kept h.good hn hE
  refine ⟨fun x r e => ?_, fun z hz => ?_, fun r hr => ?_, fun x r e => ?_, hg', hk.good, hk.used, by rw [hk.cap]; exact h.cap, by rw [hk.time]; exact h.tm, ?_, h.srt, ?_⟩
  · split at e
    · rename_i c; cases e; exact ⟨by rw [hy, c], hok, by omega, by omega⟩
    · obtain ⟨a, b, c, d⟩ := h.g1 x r e; exact ⟨a, b, c, by omega⟩
  · show (if z.r.id = (n : Int) then some y else G z.r.id) = some z.r
    rcases p2 z hz with e | ⟨w, hw, e⟩
    · rw [e, hy, if_pos rfl]
    · rw [← e]
      have := h.g1 _ _ (h.hS w hw)
      rw [if_neg (by omega)]; exact h.hS w hw
  · show (if r.id = (n : Int) then some y else G r.id) = some r
    have := h.g1 _ _ (h.hR r hr)
    rw [if_neg (by omega)]; exact h.hR r hr
  · have key : x = y.id ∨ x ∈ idsL S.L → x ∈ idsL (putR S y).1.L ∨ x ∈ idsR R ∨ g'[x.toNat]? = some true := fun k => by
      rcases (p1 x).2 k with k | k
      · exact .inl k
      · exact .inr (.inr (hd x k))
    split at e
    · rename_i c; exact key (.inl (by rw [hy, c]))
    · rcases h.cov x r e with k | k | k
      · exact key (.inr k)
      · exact .inr (.inl k)
      · exact .inr (.inr (hold _ k))
  · intro z hz
    rw [hk.time]
    have := h.tm.1
    rcases p3 z hz with e | ⟨w, hw, e⟩
    · omega
    · have := h.snt w hw; omega
  · have h1 := hk.len
    have h2 := h.len
    omega
theorem Inv.put_in (h : Inv G n g S R t) (hn : S.L.length ≤ 255) {y : Item} (hy : y.id = n) (hE : putE S y = 0) : ∀ d ∈ (putR S y).2, 0 ≤ d ∧ d < (n : Int) + 1 := fun d hd => by
  rcases ((put_ids h.good hn hE).1 d).1 (.inr hd) with e | e
  · omega
  · obtain ⟨x, hx, rfl⟩ := List.mem_map.1 e
    have := h.g1 _ _ (h.hS x hx)
    show 0 ≤ x.r.id ∧ x.r.id < (n : Int) + 1
    omega
/-- a burst -/
theorem Inv.burst (h : Inv G n g S R t) {t' : Int} (ht : S.time ≤ t') (h0 : 0 ≤ t') (o : List Int) : Inv G n g (S.mark t' o) R t' := by
  have hid : idsL (S.mark t' o).L = idsL S.L := by
    show idsL (S.L.map (mkS t' o)) = _
    exact idsL_mk ..
  refine ⟨h.g1, fun z hz => ?_, h.hR, fun x r e => by rw [hid]; exact h.cov x r e, h.gl, h.good.mark t' o, h.use, h.cap, ⟨h0, Int.le_refl _⟩, fun z hz => ?_, h.srt, by show (S.L.map (mkS t' o)).length ≤ n; rw [List.length_map]; exact h.len⟩
  · obtain ⟨y, hy, rfl⟩ := List.mem_map.1 hz
    rw [mkS_r]; exact h.hS y hy
  · obtain ⟨y, hy, rfl⟩ := List.mem_map.1 hz
    show (mkS t' o y).sent ≤ t'
    have := h.snt y hy
    rw [mkS_sent]
    split <;> omega
/-- a record arrives -/
theorem Inv.take (h : Inv G n g S R t) {y : Item} (hy : G y.id = some y) : Inv G n g S (tkR R y) t := by
  have hmem : ∀ r, r ∈ R → r ∈ tkR R y := fun r hr => by
    unfold tkR
    split
    · exact insR_mem.2 (.inr hr)
    · exact hr
  refine ⟨h.g1, h.hS, fun r hr => ?_, fun x r e => ?_, h.gl, h.good, h.use, h.cap, h.tm, h.snt, tkR_srt h.srt, h.len⟩
  · rcases tkR_mem hr with k | ⟨rfl, _⟩
    · exact h.hR r k
    · exact hy
  · rcases h.cov x r e with k | k | k
    · exact .inl k
    · obtain ⟨z, hz, rfl⟩ := List.mem_map.1 k
      exact .inr (.inl (List.mem_map.2 ⟨z, hmem z hz, rfl⟩))
    · exact .inr (.inr k)
theorem sumH_sub {A B : List Hd} (h : A.Sublist B) (hb : ∀ x ∈ B, 0 ≤ x.bytes) : sumH A ≤ sumH B := by
  induction h with
  | slnil => exact Int.le_refl _
  | cons a h ih =>
    have h1 := ih fun x hx => hb x (by simp [hx])
    have h2 := hb a (by simp)
    show sumH _ ≤ sumH (a :: _)
    have e : ∀ l : List Hd, sumH (a :: l) = a.bytes + sumH l := fun l => by simp [sumH]
    rw [e]; omega
  | cons_cons a h ih =>
    have h1 := ih fun x hx => hb x (by simp [hx])
    have e : ∀ l : List Hd, sumH (a :: l) = a.bytes + sumH l := fun l => by simp [sumH]
    rw [e, e]; omega
theorem Good.byt (h : Good S) : ∀ x ∈ S.L, 0 ≤ x.bytes := fun x hx => by
  have := h.ok x hx
  simp only [Item.ok] at this
  unfold Hd.bytes; split <;> omega
/-- what has arrived is acknowledged -/
theorem Inv.ack (h : Inv G n g S R t) : Inv G n g (S.keep (isInB (ackL R))) R t := by
  have hs : (keepL (isInB (ackL R)) S.L).Sublist S.L := List.filter_sublist
  refine ⟨h.g1, fun z hz => h.hS z (hs.subset hz), h.hR, fun x r e => ?_, h.gl, h.good.keepG, ?_, h.cap, h.tm, fun z hz => h.snt z (hs.subset hz), h.srt, Nat.le_trans hs.length_le h.len⟩
  · rcases h.cov x r e with k | k | k
    · obtain ⟨z, hz, ez⟩ := List.mem_map.1 k
      have ez' : z.r.id = x := ez
      cases hi : isInB (ackL R) x with
      | true => exact .inr (.inl (ack_only R R.length x hi))
      | false =>
        left
        refine List.mem_map.2 ⟨z, ?_, ez⟩
        show z ∈ S.L.filter _
        rw [List.mem_filter]
        exact ⟨hz, by rw [ez', hi]; rfl⟩
    · exact .inr (.inl k)
    · exact .inr (.inr k)
  · have h1 : sumH (keepL (isInB (ackL R)) S.L) ≤ sumH S.L := sumH_sub hs h.good.byt
    have h2 : sumH S.L = S.used := h.good.sum.symm
    have h3 := h.use
    show sumH (keepL (isInB (ackL R)) S.L) ≤ S.cap
    omega
/-- once all have arrived, all are acknowledged -/
theorem Inv.ackAll (h : Inv G n g S R t) (ha : ∀ x ∈ idsL S.L, x ∈ idsR R) : (S.keep (isInB (ackL R))).L = [] := by
  show S.L.filter _ = []
  rw [List.filter_eq_nil_iff]
  intro z hz
  obtain ⟨r, hr, e⟩ := List.mem_map.1 (ha z.r.id (List.mem_map.2 ⟨z, hz, rfl⟩))
  obtain ⟨j, hj⟩ := List.getElem?_of_mem hr
  have := ack_in h.srt h.rok R.length (Nat.le_refl _) j r (List.getElem?_eq_some_iff.1 hj).1 hj
  have e' : r.id = z.r.id := e
  rw [e'] at this
  have h2 : isInB (ackL R) z.r.id = true := this
  simp [h2]
theorem Inv.due (h : Inv G n g S R t) : ∀ x ∈ S.L, dueB t 0 x = true := fun x hx => by
  have h1 := h.snt x hx
  have h2 := h.tm.2
  unfold dueB
  simp; omega
end

end Go.Proofs.Ytlhchnnfgppneaa.Ab
namespace Go.Proofs.Ytlhchnnfgppneaa.Ab
open Go Go.RowKit Go.Proofs
set_option linter.unusedSimpArgs false
set_option linter.unusedVariables false
attribute [local irreducible] Awp wpO thenQ blockQ bodyQ ACalls stepA

theorem FrO.keeps {K K' : Hp} {F : Ft} {w : Rw} {S : Bf} (hR : Rep K F w S) (hF : FrO F w K K') {j : Nat} {ob : AObj} (hj : K[j]? = some ob) (hne : j ≠ F.r ∧ j ≠ F.s ∧ j ≠ F.t) (h1 : ∀ cs, ob ≠ .cells cs 109) (h3 : ∀ cs, ob ≠ .cells cs 2) : K'[j]? = some ob := by
  rw [hF.old j (List.getElem?_eq_some_iff.1 hj).1 (fun e => ?_) hne.1 hne.2.1 hne.2.2 (fun m e => ?_)]
  · exact hj
  · subst e; rw [hR.raw.hb] at hj; cases hj; exact h1 _ rfl
  · obtain ⟨v, hv, _⟩ := hR.ord.blk e
    rw [hv] at hj; cases hj; exact h3 _ rfl
theorem Ibx.prog {K K' : Hp} {F : Ft} {w : Rw} {S : Bf} {m : Nat} {R : List Item} (hX : Ibx K m R) (hR : Rep K F w S) (hF : FrO F w K K') (hne : m ≠ F.r ∧ m ≠ F.s ∧ m ≠ F.t) : Ibx K' m R := by
  obtain ⟨kr, hm, hk⟩ := hX.at_
  exact ⟨hX.srt, hX.ok, kr, hF.keeps hR hm hne (fun cs e => by cases e) (fun cs e => by cases e), hk⟩
theorem Rep.take {K K' : Hp} {F : Ft} {w : Rw} {S : Bf} {m : Nat} {R : List Item} (hR : Rep K F w S) (hX : Ibx K m R) (hF : FrM m K K') (hne : m ≠ F.r ∧ m ≠ F.s ∧ m ≠ F.t) : Rep K' F w S := by
  obtain ⟨kr, hm, hk⟩ := hX.at_
  obtain ⟨l1, l2, l3, l4⟩ := hR.raw.lt
  refine ⟨⟨?_, ?_, ?_, ?_, hR.raw.rs, hR.raw.rt, hR.raw.st⟩, hR.cap, hR.used, hR.time, hR.ord.get fun o n v e hb => ?_, hR.mr, hR.ms, hR.mt⟩
  · rw [hF.old _ l1 (fun e => by have := hR.raw.hb; rw [e, hm] at this; cases this)]; exact hR.raw.hb
  · rw [hF.old _ l2 (Ne.symm hne.1)]; exact hR.raw.hr
  · rw [hF.old _ l3 (Ne.symm hne.2.1)]; exact hR.raw.hs
  · rw [hF.old _ l4 (Ne.symm hne.2.2)]; exact hR.raw.ht
  · rw [hF.old _ (List.getElem?_eq_some_iff.1 hb).1 (fun e => by rw [e, hm] at hb; cases hb)]; exact hb

def pcz (l : List Pc) : List (List AV) := l.map Pc.cs
theorem pcz_len (l : List Pc) : (pcz l).length = l.length := by simp [pcz]

end Go.Proofs.Ytlhchnnfgppneaa.Ab
namespace Go.Proofs.Ytlhchnnfgppneaa.Ab
open Go Go.RowKit

section
variable {P : Program} {n : Nat} {rd : Option Nat} {ops : Array Oper} {mu : Nat → Bool} {Q : Exit → Env → Hp → Prop} {T : Env} {H : Hp}

/-- one step of an order -/
def InvStepO (P : Program) (I : (Nat → Bool) → Env → Hp → Prop) (i : Nat) (o : Oper) : Prop :=
  ∀ L T H, L i = false → (o.after.toList.all fun e => !Region.binds .any e || L e.on) = true → I L T H → OpOK P o T H fun v H' => I (setL L i) (putA T o.dst v) H'

theorem inv_soundO (hok : invOk n ops = true) {I : (Nat → Bool) → Env → Hp → Prop} (hs : AllIx (InvStepO P I) 0 ops.toList) (hq : ∀ L T H, (∀ i, i < ops.size → L i = true) → I L T H → Q .normal T H)
    {base : Nat} {w0 : World} {r : Option Nat} {X : Exit → Act → World → Prop} {ds : List Deferred} {g0 : Gh}
    (hX : ∀ T' H' g' a' w', Q .normal T' H' → g0.le g' → Sim base w0 g' H' w' → TRel g' n T' a'.tmps → a'.defers = ds → X .normal a' w') :
    ∀ (fuel : Nat) (listed : Array Bool) (T : Env) (H : Hp) (g : Gh) (w : World) (a : Act), listed.size = ops.size → RoomInvL ops listed fuel → I (fun i => listed.getD i false) T H → g0.le g → Sim base w0 g H w → TRel g n T a.tmps → a.defers = ds →
      wpAnyIn (FR r) 0 P .any ops X fuel listed a w := by
  have hend : ∀ (fuel : Nat) (listed : Array Bool) (T : Env) (H : Hp) (g : Gh) (w : World) (a : Act), listed.size = ops.size → Region.ready .any ops listed = [] → I (fun i => listed.getD i false) T H → g0.le g → Sim base w0 g H w → TRel g n T a.tmps → a.defers = ds →
      wpAnyIn (FR r) 0 P .any ops X fuel listed a w := by
    intro fuel listed T H g w a hsz hr hI hg S hT hd
    refine wpAnyIn_done hr (hX T H g a w (hq _ _ _ (fun i => ?_) hI) hg S hT hd) _
    induction i using Nat.strongRecOn with
    | _ i ih =>
      intro hi
      cases hl : listed.getD i false with
      | true => rfl
      | false =>
        exfalso
        have ho : ops[i]? = some ops[i] := Array.getElem?_eq_getElem hi
        have : i ∈ Region.ready .any ops listed := by
          rw [mem_ready]
          refine ⟨?_, ops[i], ho, fun e he hb => ih e.on ((invOk_spec hok ho).2.2 e he hb) (by have := (invOk_spec hok ho).2.2 e he hb; omega)⟩
          rw [Array.getD_eq_getD_getElem?, Array.getElem?_eq_getElem (by omega), Option.getD_some] at hl ⊢
          exact hl
        rw [hr] at this; cases this
  intro fuel
  induction fuel with
  | zero =>
    intro listed T H g w a hsz hroom hI hg S hT hd
    refine hend 0 listed T H g w a hsz ?_ hI hg S hT hd
    cases hr : Region.ready .any ops listed with
    | nil => rfl
    | cons i rs =>
      have hi : i ∈ Region.ready .any ops listed := by rw [hr]; simp
      obtain ⟨h1, h2, _⟩ := readyInvL hsz hi
      have := hroom [i] (by simp) (by intro j hj; simp at hj; subst hj; exact ⟨h1, h2⟩)
      simp at this
  | succ fuel ih =>
    intro listed T H g w a hsz hroom hI hg S hT hd
    by_cases hr : Region.ready .any ops listed = []
    · exact hend _ listed T H g w a hsz hr hI hg S hT hd
    · refine wpAnyIn_all rfl hr fun i hi => ?_
      obtain ⟨hlt, hli, o, ho, hedges⟩ := readyInvL hsz hi
      obtain ⟨hgd, hdst, _⟩ := invOk_spec hok ho
      have hst := AllIx.get hs (i := i) (o := o) (by simpa using ho)
      rw [Nat.zero_add] at hst
      have hp := hst (fun i => listed.getD i false) T H hli (by
        rw [List.all_eq_true]
        intro e he
        cases hb : Region.binds .any e with
        | false => rfl
        | true => simpa using hedges e (by simpa using he) hb) hI
      unfold wpOpIn
      rw [ho]
      simp only
      rw [if_pos (by unfold Region.wanted; rw [hgd])]
      have hput : ∀ z, (a.put o.dst z).defers = a.defers := by intro z; cases o.dst <;> rfl
      refine hp base w0 g w a r S (fun x _ => evA_rel hT x) _ _ (fun v1 z H1 g' w' hI' hg' S' hR => ?_)
      refine ih _ (putA T o.dst v1) H1 g' w' _ (by simpa using hsz) ?_ ?_ (hg.trans hg') S' ((hT.mono hg').put hdst hR) (by rw [hput]; exact hd)
      · intro Z hZ hk
        have := hroom (i :: Z) (List.nodup_cons.2 ⟨fun hm => by have := (hk i hm).2; rw [setInvL hsz hlt] at this; simp [setL] at this, hZ⟩) (fun k hkm => by
          rcases List.mem_cons.1 hkm with rfl | hkm
          · exact ⟨hlt, hli⟩
          · have h1 := hk k hkm
            refine ⟨h1.1, ?_⟩
            have h2 := h1.2
            rw [setInvL hsz hlt] at h2
            unfold setL at h2
            by_cases hki : k = i
            · rw [if_pos hki] at h2; cases h2
            · rw [if_neg hki] at h2; exact h2)
        simp at this
        omega
      · have e : (fun j => (listed.setIfInBounds i true).getD j false) = setL (fun j => listed.getD j false) i := funext fun j => setInvL hsz hlt j
        rw [e]; exact hI'

/-- a region that draws its order, by an invariant over what has been done -/
theorem Awp.anyInvO {id : Nat} (hm : P.follows .mixedOrders = true) (I : (Nat → Bool) → Env → Hp → Prop) (hok : invOk n ops = true) (h0 : I (fun _ => false) T H) (hs : AllIx (InvStepO P I) 0 ops.toList)
    (hq : ∀ L T H, (∀ i, i < ops.size → L i = true) → I L T H → Q .normal T H) : Awp P n rd (.region id ops true) T H Q := by
  intro base w0 g w a r S hT hr
  refine wpIn_region_any hm ?_
  refine inv_soundO hok hs hq (g0 := g) (ds := a.defers) (fun T' H' g' a' w' hq hg' S' hT' hd => ⟨T', H', g', [], hq, hg', S', hT', hd, Marks.nil _ _⟩) ops.size (Array.replicate ops.size false) T H g _ a (by simp) ?_ ?_ (Gh.le.refl g) S.drew hT rfl
  · intro Z hZ hk
    exact nodup_le _ Z hZ fun k hk' => (hk k hk').1
  · have e : (fun i => (Array.replicate ops.size false).getD i false) = fun _ => false := by
      funext i
      rw [Array.getD_eq_getD_getElem?, Array.getElem?_replicate]
      split <;> rfl
    rw [e]; exact h0

end

end Go.Proofs.Ytlhchnnfgppneaa.Ab
namespace Go.Proofs.Ytlhchnnfgppneaa.Ab
open Go Go.RowKit Go.Proofs
set_option linter.unusedSimpArgs false
set_option linter.unusedVariables false
attribute [local irreducible] Awp wpO thenQ blockQ bodyQ ACalls stepA

theorem OrdAt.shape {H : Hp} {a : AV} {ids : List Int} (h : OrdAt H a ids) : ((a = nilS ∨ a = .rsl [] true) ∧ ids = []) ∨ ∃ o m, a = .msl o 0 m ∧ m = ids.length := by
  cases h with
  | nil => exact .inl ⟨.inl rfl, rfl⟩
  | emp => exact .inl ⟨.inr rfl, rfl⟩
  | row hb hn h0 => exact .inr ⟨_, _, rfl, by rw [List.length_take]; omega⟩

/-- what Ack comes to -/
structure AckP (H : Hp) (F : Ft) (w : Rw) (S : Bf) (f : Int → Bool) (K : Hp) (w' : Rw) : Prop where
  rep : Rep K F w' (S.keep f)
  fr : FrO F w H K
  row : ∀ o m, w'.ord = .msl o 0 m → ∃ m', w.ord = .msl o 0 m'

theorem AckD.store {H K : Hp} {F : Ft} {w : Rw} {S : Bf} {f : Int → Bool} {a : AV} (hR : Rep H F w S) (h : AckD H F w S f a K) :
    ∃ cs w', K[F.b]? = some (.cells [cs] 109) ∧ cs.length = 7 ∧ AckP H F w S f (K.set F.b (.cells [cs.set 3 a] 109)) w' := by
  obtain ⟨⟨⟨w1, hR1, h1, h2, h3, h4, q1, q2, q3⟩, hfr⟩, hO, hrow⟩ := h
  rw [midL_all] at h4 q1 q2 q3
  obtain ⟨R2, F2⟩ := hR1.setB w1.used w1.time a
  have hb := hR1.hb
  simp only [Rw.cs] at hb
  refine ⟨_, _, hb, rfl, ⟨R2, h1.trans hR.cap, h4, h2.trans hR.time, ?_, q1, q2, q3⟩, hfr.trans F2, hrow⟩
  exact hO.set hb (by intro v e; simp at e) _

structure Inv7 (H : Hp) (F : Ft) (w : Rw) (S : Bf) (s : List (Int × Int)) (ex : Bool) (n : Nat) (L : Nat → Bool) (T : Env) (K : Hp) : Prop where
  t2 : T 2 = .rptr [.mptr F.b 0 0] 0
  t3 : T 3 = .rptr [.rsl (sps s) ex] 0
  t7 : T 7 = iv n
  i0 : L 0 = true → T 21 = .mptr F.b 0 0
  i1 : L 1 = true → T 22 = .mptr F.b 0 0
  i2 : L 2 = true → T 23 = .mptr F.b 0 0
  i3 : L 3 = true → T 24 = .mptr F.b 0 3
  i4 : L 4 = true → T 25 = w.ord
  i5 : L 5 = true → T 26 = .fn (.func 67) [.rptr [.rsl (sps s) ex] 0, .rptr [.mptr F.b 0 0] 0]
  i7 : L 7 = true → T 28 = .mptr F.b 0 0
  i8 : L 8 = true → T 29 = .mptr F.b 0 3
  a : L 6 = false → K = H
  b : L 6 = true → L 9 = false → AckD H F w S (isInB s) (T 27) K
  c : L 9 = true → ∃ w', AckP H F w S (isInB s) K w'
  j9 : L 9 = true → L 6 = true
  j6 : L 6 = true → L 4 = true

set_option maxRecDepth 8000 in
set_option maxHeartbeats 8000000 in
theorem Ack_ok {H : Hp} {F : Ft} {w : Rw} {S : Bf} (hR : Rep H F w S) (hg : Good S) (s : List (Int × Int)) (ex : Bool) (hc : setC s = 0) (hm : s.length ≤ maxLen) :
    ACalls Try.prog 33 [.mptr F.b 0 0, .rsl (sps s) ex] H fun v1 H1 => v1 = .tup [iv ((S.L.length : Int) - (keepL (isInB s) S.L).length), iv 0] ∧ ∃ w', AckP H F w S (isInB s) H1 w' := by
  have hb := hR.raw.hb
  simp only [Rw.cs] at hb
  have hv := valid_ok hR.raw
  have hck := bcheckSet_ok H s ex
  rw [hc] at hck
  have hlm := hg.len
  have hlen : ∀ {ids : List Int}, ids = idsL S.L → ids.length = S.L.length := fun e => by rw [e]; simp [idsL]
  have hsh := hR.ord.shape
  have hD := del_ok hR hg s ex hc hm
  refine ACalls.of_body Try.func33 rfl (by kernel_rfl) (by rw [Try.ntmps33]; simp) ?_; rw [Try.ntmps33]
  repeat' ((fail_if_success (apply stopR (id := 6))); (fail_if_success (apply stopS (id := 6))); first | refine spD (fun _ => ?_) (fun _ => ?_) | refine spF (fun _ => ?_) (fun _ => ?_) | (apply gT; (exact rfl)) | (apply off; (exact rfl); (exact rfl)) | (apply condT; (exact rfl)) | (apply condF; (exact rfl)) | ((first | (apply stp0; (exact rfl); (exact rfl)) | (apply stpN0; (exact rfl)) | apply gT | apply condT | ((first | apply bodyQ_d0 | apply bodyQ_d1 | apply bodyQ_d2 | apply bodyQ_d3 | apply bodyQ_d4); (exact .inr rfl); (rw [Try.results33]))); (first | (focus (simp only [go_sem, ↓reduceIte, simprocAttr] <;> rfl)) | exact rfl); (first | (fail_if_success (show okD _ _ _ _ _ _ _ _ _)) | (first | exact okT | exact okN | exact okE rfl)); (first | (fail_if_success (show Bel _ _)) | (focus first | exact .val _ | (simp [oneOf, Bel_iff_tup, Bel_iff_agg, Bel_iff_rsl, Bel_iff_fn, Bel_iff_rptr, Bel_val]; done)))) | (apply calTo0; (exact rfl); (iterate 2 (simp only [go_sem, ↓reduceIte, simprocAttr]; rfl)); (first | exact hv | exact hck); (first | exact okT | exact okN | exact okE rfl)) | refine thenQ_n ?_ | refine thenQ_r ?_ | refine thenQ_e ?_ | refine blockQ_n ?_ | refine blockQ_r ?_ | refine blockQ_e ?_ | (apply blockQ_o; (exact rfl)) | refine Awp.seq ?_ | refine Awp.skip ?_ | refine Awp.block ?_ | refine reg (fun s => false) ?_ | (apply drwE mixed (fun s => false); (kernel_rfl)) | refine fin ?_ | refine Awp.ret ?_ | refine Awp.exit ?_ | ((first | (apply off; (exact rfl)) | apply condF); (first | (focus (simp only [go_sem, ↓reduceIte, simprocAttr] <;> rfl)) | exact rfl)))
  all_goals first | contradiction | (exfalso; omega) | skip
  refine Awp.withT (fun T' => T' 2 = .rptr [.mptr F.b 0 0] 0 ∧ T' 3 = .rptr [.rsl (sps s) ex] 0) ⟨?_, ?_⟩ ?_
  · (first | (focus (simp only [go_sem, ↓reduceIte, simprocAttr]; first | done | rfl)) | rfl)
  · (first | (focus (simp only [go_sem, ↓reduceIte, simprocAttr]; first | done | rfl)) | rfl)
  rintro T ⟨t2, t3⟩
  refine Awp.seq (Awp.mono (Q := fun e T K => e = .normal ∧ K = H ∧ T 2 = .rptr [.mptr F.b 0 0] 0 ∧ T 3 = .rptr [.rsl (sps s) ex] 0 ∧ T 7 = iv S.L.length) ?_ ?_)
  · rcases hsh with ⟨eo, ei⟩ | ⟨o, m, eo, em⟩
    · have h0 := hlen ei.symm
      rcases eo with eo | eo
      · rw [eo] at hb
        repeat' (first | refine spD (fun _ => ?_) (fun _ => ?_) | refine spF (fun _ => ?_) (fun _ => ?_) | (apply gT; (exact rfl)) | (apply off; (exact rfl); (exact rfl)) | (apply condT; (exact rfl)) | (apply condF; (exact rfl)) | ((first | (apply stp0; (exact rfl); (exact rfl)) | (apply stpN0; (exact rfl)) | apply gT | apply condT | ((first | apply bodyQ_d0 | apply bodyQ_d1 | apply bodyQ_d2 | apply bodyQ_d3 | apply bodyQ_d4); (exact .inr rfl); (rw [Try.results33]))); (first | (focus (simp only [go_sem, ↓reduceIte, simprocAttr, t2, t3, hb] <;> rfl)) | exact rfl); (first | (fail_if_success (show okD _ _ _ _ _ _ _ _ _)) | (first | exact okT | exact okN | exact okE rfl)); (first | (fail_if_success (show Bel _ _)) | (focus first | exact .val _ | (simp [oneOf, Bel_iff_tup, Bel_iff_agg, Bel_iff_rsl, Bel_iff_fn, Bel_iff_rptr, Bel_val]; done)))) | refine thenQ_n ?_ | refine thenQ_r ?_ | refine thenQ_e ?_ | refine blockQ_n ?_ | refine blockQ_r ?_ | refine blockQ_e ?_ | (apply blockQ_o; (exact rfl)) | refine Awp.seq ?_ | refine Awp.skip ?_ | refine Awp.block ?_ | refine reg (fun s => false) ?_ | (apply drwE mixed (fun s => false); (kernel_rfl)) | refine fin ?_ | refine Awp.ret ?_ | refine Awp.exit ?_ | ((first | (apply off; (exact rfl)) | apply condF); (first | (focus (simp only [go_sem, ↓reduceIte, simprocAttr, t2, t3, hb] <;> rfl)) | exact rfl)))
        all_goals first | contradiction | (exfalso; omega) | skip
        refine ⟨rfl, rfl, ?_, ?_, ?_⟩
        · (first | (focus (simp only [go_sem, ↓reduceIte, simprocAttr, t2]; first | done | rfl)) | rfl)
        · (first | (focus (simp only [go_sem, ↓reduceIte, simprocAttr, t3]; first | done | rfl)) | rfl)
        · rw [← h0]; (first | (focus (simp only [go_sem, ↓reduceIte, simprocAttr]; first | done | rfl)) | rfl)
      · rw [eo] at hb
        repeat' (first | refine spD (fun _ => ?_) (fun _ => ?_) | refine spF (fun _ => ?_) (fun _ => ?_) | (apply gT; (exact rfl)) | (apply off; (exact rfl); (exact rfl)) | (apply condT; (exact rfl)) | (apply condF; (exact rfl)) | ((first | (apply stp0; (exact rfl); (exact rfl)) | (apply stpN0; (exact rfl)) | apply gT | apply condT | ((first | apply bodyQ_d0 | apply bodyQ_d1 | apply bodyQ_d2 | apply bodyQ_d3 | apply bodyQ_d4); (exact .inr rfl); (rw [Try.results33]))); (first | (focus (simp only [go_sem, ↓reduceIte, simprocAttr, t2, t3, hb] <;> rfl)) | exact rfl); (first | (fail_if_success (show okD _ _ _ _ _ _ _ _ _)) | (first | exact okT | exact okN | exact okE rfl)); (first | (fail_if_success (show Bel _ _)) | (focus first | exact .val _ | (simp [oneOf, Bel_iff_tup, Bel_iff_agg, Bel_iff_rsl, Bel_iff_fn, Bel_iff_rptr, Bel_val]; done)))) | refine thenQ_n ?_ | refine thenQ_r ?_ | refine thenQ_e ?_ | refine blockQ_n ?_ | refine blockQ_r ?_ | refine blockQ_e ?_ | (apply blockQ_o; (exact rfl)) | refine Awp.seq ?_ | refine Awp.skip ?_ | refine Awp.block ?_ | refine reg (fun s => false) ?_ | (apply drwE mixed (fun s => false); (kernel_rfl)) | refine fin ?_ | refine Awp.ret ?_ | refine Awp.exit ?_ | ((first | (apply off; (exact rfl)) | apply condF); (first | (focus (simp only [go_sem, ↓reduceIte, simprocAttr, t2, t3, hb] <;> rfl)) | exact rfl)))
        all_goals first | contradiction | (exfalso; omega) | skip
        refine ⟨rfl, rfl, ?_, ?_, ?_⟩
        · (first | (focus (simp only [go_sem, ↓reduceIte, simprocAttr, t2]; first | done | rfl)) | rfl)
        · (first | (focus (simp only [go_sem, ↓reduceIte, simprocAttr, t3]; first | done | rfl)) | rfl)
        · rw [← h0]; (first | (focus (simp only [go_sem, ↓reduceIte, simprocAttr]; first | done | rfl)) | rfl)
    · have h0 := hlen (rfl : idsL S.L = idsL S.L)
      rw [eo] at hb
      repeat' (first | refine spD (fun _ => ?_) (fun _ => ?_) | refine spF (fun _ => ?_) (fun _ => ?_) | (apply gT; (exact rfl)) | (apply off; (exact rfl); (exact rfl)) | (apply condT; (exact rfl)) | (apply condF; (exact rfl)) | ((first | (apply stp0; (exact rfl); (exact rfl)) | (apply stpN0; (exact rfl)) | apply gT | apply condT | ((first | apply bodyQ_d0 | apply bodyQ_d1 | apply bodyQ_d2 | apply bodyQ_d3 | apply bodyQ_d4); (exact .inr rfl); (rw [Try.results33]))); (first | (focus (simp only [go_sem, ↓reduceIte, simprocAttr, t2, t3, hb] <;> rfl)) | exact rfl); (first | (fail_if_success (show okD _ _ _ _ _ _ _ _ _)) | (first | exact okT | exact okN | exact okE rfl)); (first | (fail_if_success (show Bel _ _)) | (focus first | exact .val _ | (simp [oneOf, Bel_iff_tup, Bel_iff_agg, Bel_iff_rsl, Bel_iff_fn, Bel_iff_rptr, Bel_val]; done)))) | refine thenQ_n ?_ | refine thenQ_r ?_ | refine thenQ_e ?_ | refine blockQ_n ?_ | refine blockQ_r ?_ | refine blockQ_e ?_ | (apply blockQ_o; (exact rfl)) | refine Awp.seq ?_ | refine Awp.skip ?_ | refine Awp.block ?_ | refine reg (fun s => false) ?_ | (apply drwE mixed (fun s => false); (kernel_rfl)) | refine fin ?_ | refine Awp.ret ?_ | refine Awp.exit ?_ | ((first | (apply off; (exact rfl)) | apply condF); (first | (focus (simp only [go_sem, ↓reduceIte, simprocAttr, t2, t3, hb] <;> rfl)) | exact rfl)))
      all_goals first | contradiction | (exfalso; omega) | skip
      refine ⟨rfl, rfl, ?_, ?_, ?_⟩
      · (first | (focus (simp only [go_sem, ↓reduceIte, simprocAttr, t2]; first | done | rfl)) | rfl)
      · (first | (focus (simp only [go_sem, ↓reduceIte, simprocAttr, t3]; first | done | rfl)) | rfl)
      · rw [← h0, ← em]; (first | (focus (simp only [go_sem, ↓reduceIte, simprocAttr]; first | done | rfl)) | rfl)
  rintro e T K ⟨rfl, rfl, t2, t3, t7⟩
  refine thenQ_n ?_
  refine Awp.seq (Awp.mono (Q := fun e T' K' => e = .normal ∧ T' 2 = .rptr [.mptr F.b 0 0] 0 ∧ T' 7 = iv S.L.length ∧ ∃ w', AckP K F w S (isInB s) K' w') ?_ ?_)
  · refine Awp.anyInvO mixed (Inv7 K F w S s ex S.L.length) (by kernel_rfl) ?_ ?_ (fun L T J hL hI => ⟨rfl, hI.t2, hI.t7, hI.c (hL 9 (by decide))⟩)
    · exact ⟨t2, t3, t7, by simp, by simp, by simp, by simp, by simp, by simp, by simp, by simp, fun _ => rfl, by simp, by simp, by simp, by simp⟩
    simp only [AllIx]
    clear t2 t3 t7 T
    refine ⟨?_, ?_, ?_, ?_, ?_, ?_, ?_, ?_, ?_, ?_, trivial⟩
    all_goals
      intro L T J hL hp ⟨t2, t3, t7, i0, i1, i2, i3, i4, i5, i7, i8, ia, ib, ic, j9, j6⟩
      simp [Region.binds] at hp
    · refine OpOK.step (mu := fun _ => false) (by simp only [go_sem, ↓reduceIte, simprocAttr, t2]; rfl) ?_
      constructor <;> simp_all [setL, putA, upd]
    · refine OpOK.step (mu := fun _ => false) (by simp only [go_sem, ↓reduceIte, simprocAttr, t2]; rfl) ?_
      constructor <;> simp_all [setL, putA, upd]
    · have k0 := i1 (by simp [hp])
      refine OpOK.step (mu := fun _ => false) (by simp only [go_sem, ↓reduceIte, simprocAttr, k0]; rfl) ?_
      constructor <;> simp_all [setL, putA, upd]
    · have k0 := i2 (by simp [hp])
      refine OpOK.step (mu := fun _ => false) (by simp only [go_sem, ↓reduceIte, simprocAttr, k0]; rfl) ?_
      constructor <;> simp_all [setL, putA, upd]
    · have k0 := i3 (by simp [hp])
      have e6 : L 6 = false := by cases k : L 6 with | false => rfl | true => rw [j6 k] at hL; cases hL
      have eK := ia e6
      rw [eK]
      refine OpOK.step (mu := fun _ => false) (by simp only [go_sem, ↓reduceIte, simprocAttr, k0, hb]; rfl) ?_
      constructor <;> simp_all [setL, putA, upd]
    · refine OpOK.step (mu := fun _ => false) (by simp only [go_sem, ↓reduceIte, simprocAttr, t2, t3]; rfl) ?_
      constructor <;> simp_all [setL, putA, upd]
    · have k4 := i4 (by simp [hp])
      have k5 := i5 (by simp [hp])
      have e9 : L 9 = false := by cases k : L 9 with | false => rfl | true => rw [j9 k] at hL; cases hL
      have eK := ia hL
      rw [eK]
      refine OpOK.call rfl (show ACallV Try.prog (evA T (.func 66)) [evA T (.tmp 25), evA T (.tmp 26)] K _ from ?_)
      rw [show evA T (.tmp 25) = w.ord from k4, show evA T (.tmp 26) = _ from k5]
      refine ACallV.mono (show ACallV Try.prog (.fn (.func 66) []) _ K _ from hD) fun v K1 hA => ?_
      constructor <;> simp_all [setL, putA, upd]
    · have k0 := i0 (by simp [hp])
      refine OpOK.step (mu := fun _ => false) (by simp only [go_sem, ↓reduceIte, simprocAttr, k0]; rfl) ?_
      constructor <;> simp_all [setL, putA, upd]
    · have k0 := i7 (by simp [hp])
      refine OpOK.step (mu := fun _ => false) (by simp only [go_sem, ↓reduceIte, simprocAttr, k0]; rfl) ?_
      constructor <;> simp_all [setL, putA, upd]
    · have k8 := i8 (by simp [hp])
      have e6 : L 6 = true := by simp [hp]
      have hA := ib e6 hL
      obtain ⟨cs, w', h1, h2, h3⟩ := hA.store hR
      have hcell : (T 27).cells = [T 27] ∧ AV.isCell (T 27) = true := by
        rcases hA.ord.shape with ⟨e | e, _⟩ | ⟨o, m, e, _⟩ <;> rw [e] <;> exact ⟨rfl, rfl⟩
      match cs, h2 with
      | [c0, c1, c2, c3, c4, c5, c6], _ =>
      refine OpOK.step (mu := fun _ => false) (v := .val undef) (H' := J.set F.b (.cells [[c0, c1, c2, T 27, c4, c5, c6]] 109)) (by
        rcases hA.ord.shape with ⟨e | e, _⟩ | ⟨o, m, e, _⟩ <;> rw [e] <;> simp only [go_sem, ↓reduceIte, simprocAttr, k8, h1, e] <;> rfl) ?_
      constructor <;> first | exact fun _ => ⟨w', h3⟩ | simp_all [setL, putA, upd]
  rintro e T J ⟨rfl, t2, t7, w', hP⟩
  have hb2 := hP.rep.raw.hb
  simp only [Rw.cs] at hb2
  refine thenQ_n ?_
  rcases hP.rep.ord.shape with ⟨eo, ei⟩ | ⟨o, m, eo, em⟩
  · have h0 : (keepL (isInB s) S.L).length = 0 := by rw [show (keepL (isInB s) S.L).length = (idsL (S.keep (isInB s)).L).length by simp [idsL, Bf.keep], ei]; rfl
    have ww : IntKind.i64.wrap ((S.L.length : Int) - ((0 : Nat) : Int)) = (S.L.length : Int) - ((0 : Nat) : Int) := w64 (by omega) (by omega)
    have ww0 : IntKind.i64.wrap ((S.L.length : Int) - 0) = (S.L.length : Int) - 0 := ww
    rcases eo with eo | eo
    · rw [eo] at hb2
      repeat' (first | refine spD (fun _ => ?_) (fun _ => ?_) | refine spF (fun _ => ?_) (fun _ => ?_) | (apply gT; (exact rfl)) | (apply off; (exact rfl); (exact rfl)) | (apply condT; (exact rfl)) | (apply condF; (exact rfl)) | ((first | (apply stp0; (exact rfl); (exact rfl)) | (apply stpN0; (exact rfl)) | apply gT | apply condT); (first | (focus (simp only [go_sem, ↓reduceIte, simprocAttr, t2, t7, hb2, ww, ww0] <;> rfl)) | exact rfl); (first | (fail_if_success (show okD _ _ _ _ _ _ _ _ _)) | (first | exact okT | exact okN | exact okE rfl))) | refine thenQ_n ?_ | refine thenQ_r ?_ | refine thenQ_e ?_ | refine blockQ_n ?_ | refine blockQ_r ?_ | refine blockQ_e ?_ | (apply blockQ_o; (exact rfl)) | refine Awp.seq ?_ | refine Awp.skip ?_ | refine Awp.block ?_ | refine reg (fun s => false) ?_ | (apply drwE mixed (fun s => false); (kernel_rfl)) | refine fin ?_ | refine Awp.ret ?_ | refine Awp.exit ?_ | ((first | (apply off; (exact rfl)) | apply condF); (first | (focus (simp only [go_sem, ↓reduceIte, simprocAttr, t2, t7, hb2, ww, ww0] <;> rfl)) | exact rfl)))
      all_goals first | contradiction | (exfalso; omega) | skip
      exact bodyQ_mk (vs := [iv ((S.L.length : Int) - ((0 : Nat) : Int)), iv 0]) (.inr rfl) (by rw [Try.results33]; simp only [go_sem, ↓reduceIte, simprocAttr, ww, ww0]) (Vs.refl _ _ _) ⟨by rw [h0]; rfl, w', hP⟩
    · rw [eo] at hb2
      repeat' (first | refine spD (fun _ => ?_) (fun _ => ?_) | refine spF (fun _ => ?_) (fun _ => ?_) | (apply gT; (exact rfl)) | (apply off; (exact rfl); (exact rfl)) | (apply condT; (exact rfl)) | (apply condF; (exact rfl)) | ((first | (apply stp0; (exact rfl); (exact rfl)) | (apply stpN0; (exact rfl)) | apply gT | apply condT); (first | (focus (simp only [go_sem, ↓reduceIte, simprocAttr, t2, t7, hb2, ww, ww0] <;> rfl)) | exact rfl); (first | (fail_if_success (show okD _ _ _ _ _ _ _ _ _)) | (first | exact okT | exact okN | exact okE rfl))) | refine thenQ_n ?_ | refine thenQ_r ?_ | refine thenQ_e ?_ | refine blockQ_n ?_ | refine blockQ_r ?_ | refine blockQ_e ?_ | (apply blockQ_o; (exact rfl)) | refine Awp.seq ?_ | refine Awp.skip ?_ | refine Awp.block ?_ | refine reg (fun s => false) ?_ | (apply drwE mixed (fun s => false); (kernel_rfl)) | refine fin ?_ | refine Awp.ret ?_ | refine Awp.exit ?_ | ((first | (apply off; (exact rfl)) | apply condF); (first | (focus (simp only [go_sem, ↓reduceIte, simprocAttr, t2, t7, hb2, ww, ww0] <;> rfl)) | exact rfl)))
      all_goals first | contradiction | (exfalso; omega) | skip
      exact bodyQ_mk (vs := [iv ((S.L.length : Int) - ((0 : Nat) : Int)), iv 0]) (.inr rfl) (by rw [Try.results33]; simp only [go_sem, ↓reduceIte, simprocAttr, ww, ww0]) (Vs.refl _ _ _) ⟨by rw [h0]; rfl, w', hP⟩
  · rw [eo] at hb2
    have h0 : (keepL (isInB s) S.L).length = m := by rw [em]; simp [idsL, Bf.keep]
    have h1 : (keepL (isInB s) S.L).length ≤ S.L.length := List.length_filter_le _ _
    have ww : IntKind.i64.wrap ((S.L.length : Int) - m) = (S.L.length : Int) - m := w64 (by omega) (by omega)
    repeat' (first | refine spD (fun _ => ?_) (fun _ => ?_) | refine spF (fun _ => ?_) (fun _ => ?_) | (apply gT; (exact rfl)) | (apply off; (exact rfl); (exact rfl)) | (apply condT; (exact rfl)) | (apply condF; (exact rfl)) | ((first | (apply stp0; (exact rfl); (exact rfl)) | (apply stpN0; (exact rfl)) | apply gT | apply condT); (first | (focus (simp only [go_sem, ↓reduceIte, simprocAttr, t2, t7, hb2, ww] <;> rfl)) | exact rfl); (first | (fail_if_success (show okD _ _ _ _ _ _ _ _ _)) | (first | exact okT | exact okN | exact okE rfl))) | refine thenQ_n ?_ | refine thenQ_r ?_ | refine thenQ_e ?_ | refine blockQ_n ?_ | refine blockQ_r ?_ | refine blockQ_e ?_ | (apply blockQ_o; (exact rfl)) | refine Awp.seq ?_ | refine Awp.skip ?_ | refine Awp.block ?_ | refine reg (fun s => false) ?_ | (apply drwE mixed (fun s => false); (kernel_rfl)) | refine fin ?_ | refine Awp.ret ?_ | refine Awp.exit ?_ | ((first | (apply off; (exact rfl)) | apply condF); (first | (focus (simp only [go_sem, ↓reduceIte, simprocAttr, t2, t7, hb2, ww] <;> rfl)) | exact rfl)))
    all_goals first | contradiction | (exfalso; omega) | skip
    exact bodyQ_mk (vs := [iv ((S.L.length : Int) - m), iv 0]) (.inr rfl) (by rw [Try.results33]; simp only [go_sem, ↓reduceIte, simprocAttr, ww]) (Vs.refl _ _ _) ⟨by rw [h0]; rfl, w', hP⟩

set_option maxRecDepth 8000 in
theorem Ack_err {H : Hp} {F : Ft} {w : Rw} {S : Bf} (hR : Rep H F w S) (s : List (Int × Int)) (ex : Bool) (hc : setC s ≠ 0) :
    ACalls Try.prog 33 [.mptr F.b 0 0, .rsl (sps s) ex] H fun v1 H1 => v1 = .tup [iv 0, iv (setC s)] ∧ H1 = H := by
  have hv := valid_ok hR.raw
  have hck := bcheckSet_ok H s ex
  refine ACalls.of_body Try.func33 rfl (by kernel_rfl) (by rw [Try.ntmps33]; simp) ?_; rw [Try.ntmps33]
  repeat' (first | refine spD (fun _ => ?_) (fun _ => ?_) | refine spF (fun _ => ?_) (fun _ => ?_) | (apply gT; (exact rfl)) | (apply off; (exact rfl); (exact rfl)) | (apply condT; (exact rfl)) | (apply condF; (exact rfl)) | ((first | (apply stp0; (exact rfl); (exact rfl)) | (apply stpN0; (exact rfl)) | apply gT | apply condT); (first | (focus (simp only [go_sem, ↓reduceIte, simprocAttr, hc] <;> rfl)) | exact rfl); (first | (fail_if_success (show okD _ _ _ _ _ _ _ _ _)) | (first | exact okT | exact okN | exact okE rfl))) | (apply calTo0; (exact rfl); (iterate 2 (simp only [go_sem, ↓reduceIte, simprocAttr, hc]; rfl)); (first | exact hv | exact hck); (first | exact okT | exact okN | exact okE rfl)) | refine thenQ_n ?_ | refine thenQ_r ?_ | refine thenQ_e ?_ | refine blockQ_n ?_ | refine blockQ_r ?_ | refine blockQ_e ?_ | (apply blockQ_o; (exact rfl)) | refine Awp.seq ?_ | refine Awp.skip ?_ | refine Awp.block ?_ | refine reg (fun s => false) ?_ | (apply drwE mixed (fun s => false); (kernel_rfl)) | refine fin ?_ | refine Awp.ret ?_ | refine Awp.exit ?_ | ((first | (apply off; (exact rfl)) | apply condF); (first | (focus (simp only [go_sem, ↓reduceIte, simprocAttr, hc] <;> rfl)) | exact rfl)))
  all_goals first | contradiction | (exfalso; omega) | skip
  exact bodyQ_mk (vs := [iv 0, iv (setC s)]) (.inr rfl) (by rw [Try.results33]; simp only [go_sem, ↓reduceIte, simprocAttr]) (Vs.refl _ _ _) ⟨rfl, rfl⟩

end Go.Proofs.Ytlhchnnfgppneaa.Ab
