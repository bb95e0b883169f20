/- Buffers: bursts, plain. -/
import Derived.Test.YtlhchnnfgppneaaO0
namespace Go.Proofs.Ytlhchnnfgppneaa.Ab
open Go Go.RowKit Go.Proofs
set_option linter.unusedSimpArgs false
set_option linter.unusedVariables false
attribute [local irreducible] Awp wpO thenQ blockQ bodyQ ACalls stepA

/-- one record of a burst: what room is left, what has been sent -/
def bstep (t wt : Int) (s : Int × List Int) (h : Hd) : Int × List Int := if dueB t wt h = true ∧ h.bytes ≤ s.1 then (s.1 - h.bytes, s.2 ++ [h.r.id]) else s
def bst (t wt : Int) (L : List Hd) (room : Int) : Int × List Int := L.foldl (bstep t wt) (room, [])
theorem bst_succ {t wt : Int} {L : List Hd} {room : Int} {i : Nat} {h : Hd} (hi : L[i]? = some h) : bst t wt (L.take (i + 1)) room = bstep t wt (bst t wt (L.take i) room) h := by
  unfold bst
  rw [List.take_add_one, hi, List.foldl_append]
  rfl
theorem bst_mem {t wt : Int} : ∀ (L : List Hd) (s : Int × List Int) (x : Int), x ∈ (L.foldl (bstep t wt) s).2 → x ∈ s.2 ∨ x ∈ idsL L := by
  intro L
  induction L with
  | nil => intro s x h; exact .inl h
  | cons h l ih =>
    intro s x hx
    rcases ih _ x hx with k | k
    · unfold bstep at k
      split at k
      · rcases List.mem_append.1 k with m | m
        · exact .inl m
        · right; simp at m; subst m; simp [idsL]
      · exact .inl k
    · right; simp [idsL] at k ⊢; exact .inr k
theorem bst_ext {t wt : Int} : ∀ (L : List Hd) (s : Int × List Int), ∃ m, (L.foldl (bstep t wt) s).2 = s.2 ++ m ∧ ∀ x ∈ m, x ∈ idsL L := by
  intro L
  induction L with
  | nil => intro s; exact ⟨[], by simp, by simp⟩
  | cons h l ih =>
    intro s
    obtain ⟨m, e, hm⟩ := ih (bstep t wt s h)
    by_cases c : dueB t wt h = true ∧ h.bytes ≤ s.1
    · refine ⟨h.r.id :: m, ?_, ?_⟩
      · show (l.foldl (bstep t wt) (bstep t wt s h)).2 = _
        rw [e]; unfold bstep; rw [if_pos c]; simp
      · intro x hx
        rcases List.mem_cons.1 hx with rfl | hx
        · simp [idsL]
        · have := hm x hx; simp [idsL] at this ⊢; exact .inr this
    · refine ⟨m, ?_, fun x hx => ?_⟩
      · show (l.foldl (bstep t wt) (bstep t wt s h)).2 = _
        rw [e]; unfold bstep; rw [if_neg c]
      · have := hm x hx; simp [idsL] at this ⊢; exact .inr this
theorem bst_all {t wt : Int} {L : List Hd} {room : Int} {i : Nat} (hi : i ≤ L.length) : ∃ m, (bst t wt L room).2 = (bst t wt (L.take i) room).2 ++ m ∧ ∀ x ∈ m, x ∈ idsL (L.drop i) := by
  have e : bst t wt L room = (L.drop i).foldl (bstep t wt) (bst t wt (L.take i) room) := by
    unfold bst
    rw [← List.foldl_append, List.take_append_drop]
  rw [e]; exact bst_ext _ _
theorem bst_len {t wt : Int} : ∀ (L : List Hd) (s : Int × List Int), (L.foldl (bstep t wt) s).2.length ≤ s.2.length + L.length := by
  intro L
  induction L with
  | nil => intro s; simp
  | cons h l ih =>
    intro s
    have := ih (bstep t wt s h)
    show (l.foldl (bstep t wt) (bstep t wt s h)).2.length ≤ _
    have k : (bstep t wt s h).2.length ≤ s.2.length + 1 := by unfold bstep; split <;> simp
    simp; omega
theorem bst_room {t wt : Int} : ∀ (L : List Hd) (s : Int × List Int), (∀ h ∈ L, h.r.ok) → 0 ≤ s.1 → 0 ≤ (L.foldl (bstep t wt) s).1 ∧ (L.foldl (bstep t wt) s).1 ≤ s.1 := by
  intro L
  induction L with
  | nil => intro s _ h; exact ⟨h, Int.le_refl _⟩
  | cons h l ih =>
    intro s hk h0
    have h2 := hk h (by simp)
    simp only [Item.ok] at h2
    have hb : 1 ≤ h.bytes := by unfold Hd.bytes; split <;> omega
    have key : 0 ≤ (bstep t wt s h).1 ∧ (bstep t wt s h).1 ≤ s.1 := by
      unfold bstep
      split
      · rename_i c; show 0 ≤ s.1 - h.bytes ∧ s.1 - h.bytes ≤ s.1; omega
      · exact ⟨h0, Int.le_refl _⟩
    have := ih (bstep t wt s h) (fun y hy => hk y (by simp [hy])) key.1
    show 0 ≤ (l.foldl (bstep t wt) (bstep t wt s h)).1 ∧ (l.foldl (bstep t wt) (bstep t wt s h)).1 ≤ s.1
    omega

/-- records that have been sent -/
def mkS (t : Int) (o : List Int) (h : Hd) : Hd := if h.r.id ∈ o then { h with sent := t } else h
theorem mkS_r (t : Int) (o : List Int) (h : Hd) : (mkS t o h).r = h.r := by unfold mkS; split <;> rfl
theorem mkS_bytes (t : Int) (o : List Int) (h : Hd) : (mkS t o h).bytes = h.bytes := by unfold mkS; split <;> rfl
theorem mkS_sm (t : Int) (o : List Int) (h : Hd) : (mkS t o h).sm = h.sm := by unfold mkS; split <;> rfl
theorem mkS_sent (t : Int) (o : List Int) (h : Hd) : (mkS t o h).sent = if h.r.id ∈ o then t else h.sent := by unfold mkS; split <;> rfl
theorem idsL_mk (t : Int) (o : List Int) (L : List Hd) : idsL (L.map (mkS t o)) = idsL L := by
  unfold idsL
  rw [List.map_map]
  exact List.map_congr_left fun h _ => by simp only [Function.comp, mkS_r]
theorem findH_mk (t : Int) (o : List Int) (y : Int) : ∀ L : List Hd, findH (L.map (mkS t o)) y = (findH L y).map (mkS t o) := by
  intro L
  induction L with
  | nil => rfl
  | cons h l ih =>
    show (if y = (mkS t o h).r.id then some (mkS t o h) else findH (l.map (mkS t o)) y) = Option.map (mkS t o) (if y = h.r.id then some h else findH l y)
    rw [mkS_r, ih]
    split <;> rfl
def Bf.mark (S : Bf) (t : Int) (o : List Int) : Bf := { S with time := t, L := S.L.map (mkS t o) }
theorem Good.mark {S : Bf} (h : Good S) (t : Int) (o : List Int) : Good (S.mark t o) := by
  refine ⟨by show (idsL (S.L.map (mkS t o))).Nodup; rw [idsL_mk]; exact h.nd, fun x hx => ?_, ?_, by show (S.L.map (mkS t o)).length ≤ 257; rw [List.length_map]; exact h.len, h.cap, ?_⟩
  · obtain ⟨y, hy, rfl⟩ := List.mem_map.1 hx
    rw [mkS_r]; exact h.ok y hy
  · show S.used = ((S.L.map (mkS t o)).map Hd.bytes).sum
    rw [List.map_map, h.sum]
    congr 1
    exact List.map_congr_left fun x _ => by simp only [Function.comp, mkS_bytes]
  · show (S.L.map (mkS t o)).Pairwise _
    rw [List.pairwise_map]
    exact h.srt.imp fun {a b} k => by rw [mkS_r, mkS_r]; exact k
theorem recF_mk (t : Int) (o : List Int) (L : List Hd) (y : Int) : recF (L.map (mkS t o)) y = recF L y := by
  unfold recF; rw [findH_mk]
  cases findH L y with
  | none => rfl
  | some h => simp only [Option.map_some, mkS_r]
theorem smF_mk (t : Int) (o : List Int) (L : List Hd) (y : Int) : smF (L.map (mkS t o)) y = smF L y := by
  unfold smF; rw [findH_mk]
  cases findH L y with
  | none => rfl
  | some h => simp only [Option.map_some, Option.bind_some, mkS_sm]
theorem stF_mk {t : Int} (ht : t ≠ -1) (o : List Int) {L : List Hd} {x : Int} (hx : x ∈ idsL L) (y : Int) : stF (L.map (mkS t (o ++ [x]))) y = if y = x then some (iv t) else stF (L.map (mkS t o)) y := by
  unfold stF
  rw [findH_mk, findH_mk]
  cases e : findH L y with
  | none =>
    have := findH_none.1 e
    rw [if_neg (fun k => this (by rw [k]; exact hx))]; rfl
  | some h =>
    obtain ⟨_, hid⟩ := findH_mem e
    simp only [Option.map_some, Option.bind_some, mkS_sent, hid]
    by_cases k : y = x
    · simp [k, ht]
    · rw [if_neg k]
      have : (y ∈ o ++ [x]) ↔ y ∈ o := by simp [k]
      simp only [this]
theorem stF_mk0 (t : Int) (L : List Hd) (y : Int) : stF (L.map (mkS t [])) y = stF L y := by
  have : ∀ h : Hd, mkS t [] h = h := fun h => by unfold mkS; simp
  rw [show (mkS t []) = id from funext this, List.map_id]

end Go.Proofs.Ytlhchnnfgppneaa.Ab
