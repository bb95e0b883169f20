/- Archive: the entries that count, in order. -/
import Derived.Test.YtdmgljlabigljaaTN
namespace Go.Proofs.Ytdmgljlabigljaa.Ab
open Go Go.RowKit Go.Proofs
set_option linter.unusedSimpArgs false
set_option linter.unusedVariables false
attribute [local irreducible] Awp wpO thenQ blockQ bodyQ ACalls stepA

def sameE (a b : Ent) : Bool := decide (a.series = b.series ∧ a.time = b.time)
/-- what has been handed out, and the last entry that has not -/
def stepC (asOf : Int) (st : List Ent × Option Ent) (e : Ent) : List Ent × Option Ent :=
  if e.arrived > asOf then st else match st.2 with
    | some l => if sameE l e = true then (st.1, some e) else (st.1 ++ [l], some e)
    | none => (st.1, some e)
def cntS (asOf : Int) (L : List Ent) : List Ent × Option Ent := L.foldl (stepC asOf) ([], none)
def cntL (asOf : Int) (L : List Ent) : List Ent := (cntS asOf L).1 ++ (cntS asOf L).2.toList
theorem cntS_succ {asOf : Int} {L : List Ent} {j : Nat} {e : Ent} (h : L[j]? = some e) : cntS asOf (L.take (j + 1)) = stepC asOf (cntS asOf (L.take j)) e := by
  unfold cntS
  rw [List.take_add_one, h, List.foldl_append]; rfl
theorem stepC_pre (asOf : Int) (st : List Ent × Option Ent) (e : Ent) : ∃ X, (stepC asOf st e).1 = st.1 ++ X := by
  unfold stepC
  split
  · exact ⟨[], by simp⟩
  · split
    · split
      · exact ⟨[], by simp⟩
      · exact ⟨_, rfl⟩
    · exact ⟨[], by simp⟩
theorem foldC_pre (asOf : Int) : ∀ (L : List Ent) (st : List Ent × Option Ent), ∃ X, (L.foldl (stepC asOf) st).1 = st.1 ++ X
  | [], st => ⟨[], by simp⟩
  | e :: L, st => by
    obtain ⟨X, hX⟩ := stepC_pre asOf st e
    obtain ⟨Y, hY⟩ := foldC_pre asOf L (stepC asOf st e)
    exact ⟨X ++ Y, by rw [List.foldl_cons, hY, hX, List.append_assoc]⟩
/-- what has been handed out is a beginning -/
theorem cnt_pre {asOf : Int} {L : List Ent} (j : Nat) : ∃ X, cntL asOf L = (cntS asOf (L.take j)).1 ++ X := by
  obtain ⟨X, hX⟩ := foldC_pre asOf (L.drop j) (cntS asOf (L.take j))
  have e : cntS asOf L = (L.drop j).foldl (stepC asOf) (cntS asOf (L.take j)) := by
    unfold cntS
    rw [← List.foldl_append, List.take_append_drop]
  refine ⟨X ++ (cntS asOf L).2.toList, ?_⟩
  unfold cntL
  rw [← List.append_assoc, ← hX, ← e]
/-- the next one that is handed out -/
theorem cnt_next {asOf : Int} {L : List Ent} {j : Nat} {e l : Ent} (h : L[j]? = some e) (ha : ¬ e.arrived > asOf) (hl : (cntS asOf (L.take j)).2 = some l) (hs : sameE l e = false) : (cntL asOf L)[(cntS asOf (L.take j)).1.length]? = some l := by
  obtain ⟨X, hX⟩ := cnt_pre (asOf := asOf) (L := L) (j + 1)
  rw [hX, cntS_succ h]
  have e1 : (stepC asOf (cntS asOf (L.take j)) e).1 = (cntS asOf (L.take j)).1 ++ [l] := by
    unfold stepC
    rw [if_neg ha, hl]
    simp only
    rw [if_neg (by rw [hs]; decide)]
  rw [e1, List.append_assoc, List.getElem?_append_right (Nat.le_refl _), Nat.sub_self]; rfl

/-- all blocks but three stay -/
structure Kp (N : Nat) (H K : Hp) : Prop where
  len : H.length ≤ K.length
  old : ∀ x, x < H.length → x ≠ N → x ≠ N + 1 → x ≠ N + 2 → K[x]? = H[x]?
theorem Kp.of {N : Nat} {H K : Hp} (h : Grow H K) : Kp N H K := ⟨h.len, fun x hx _ _ _ => h.old x hx⟩
theorem Kp.set {N : Nat} {H K : Hp} (h : Kp N H K) {s : Nat} (hs : s = N ∨ s = N + 1 ∨ s = N + 2) (c : AObj) : Kp N H (K.set s c) :=
  ⟨by rw [List.length_set]; exact h.len, fun x hx h0 h1 h2 => by rw [List.getElem?_set_ne (by omega)]; exact h.old x hx h0 h1 h2⟩
theorem Kp.app {N : Nat} {H K : Hp} (h : Kp N H K) (X : Hp) : Kp N H (K ++ X) :=
  ⟨by rw [List.length_append]; have := h.len; omega, fun x hx h0 h1 h2 => by rw [List.getElem?_append_left (by have := h.len; omega)]; exact h.old x hx h0 h1 h2⟩
theorem Kp.get {N : Nat} {H K : Hp} (h : Kp N H K) {x : Nat} {v : AObj} (hv : H[x]? = some v) (h0 : x < N ∨ N + 2 < x) : K[x]? = some v := by
  rw [h.old x (List.getElem?_eq_some_iff.1 hv).1 (by omega) (by omega) (by omega)]; exact hv

end Go.Proofs.Ytdmgljlabigljaa.Ab
