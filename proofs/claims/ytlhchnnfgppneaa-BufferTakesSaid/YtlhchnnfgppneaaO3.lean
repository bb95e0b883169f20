/- Buffers: bursts, what the law asks for; the burst that is refused. -/
import Derived.Test.YtlhchnnfgppneaaO2
namespace Go.Proofs.Ytlhchnnfgppneaa.Ab
open Go Go.RowKit Go.Proofs
set_option linter.unusedSimpArgs false
set_option linter.unusedVariables false
attribute [local irreducible] Awp wpO thenQ blockQ bodyQ ACalls stepA

theorem idsL_split {L : List Hd} {k : Nat} {h : Hd} (hk : L[k]? = some h) : idsL L = idsL (L.take k) ++ h.r.id :: idsL (L.drop (k + 1)) := by
  have hlt := (List.getElem?_eq_some_iff.1 hk).1
  have e : L = L.take k ++ h :: L.drop (k + 1) := by
    have := List.take_append_drop k L
    rw [List.drop_eq_getElem_cons hlt, (List.getElem?_eq_some_iff.1 hk).2] at this
    exact this.symm
  have e2 := congrArg idsL e
  rw [e2]; simp [idsL]
theorem bst_go {t wt room : Int} {L : List Hd} {k : Nat} {h : Hd} (hk : L[k]? = some h) (c : dueB t wt h = true ∧ h.bytes ≤ (bst t wt (L.take k) room).1) :
    (bst t wt L room).2[(bst t wt (L.take k) room).2.length]? = some h.r.id ∧ h.r.id ∈ (bst t wt L room).2 := by
  have hlt := (List.getElem?_eq_some_iff.1 hk).1
  obtain ⟨m, e, _⟩ := bst_all (t := t) (wt := wt) (L := L) (room := room) (i := k + 1) hlt
  rw [bst_succ hk] at e
  unfold bstep at e
  rw [if_pos c] at e
  rw [e]
  refine ⟨?_, by simp⟩
  simp
theorem bst_no {t wt room : Int} {L : List Hd} {k : Nat} {h : Hd} (hn : (idsL L).Nodup) (hk : L[k]? = some h) (c : ¬ (dueB t wt h = true ∧ h.bytes ≤ (bst t wt (L.take k) room).1)) :
    (∀ x, (bst t wt L room).2[(bst t wt (L.take k) room).2.length]? = some x → ¬ x = h.r.id) ∧ h.r.id ∉ (bst t wt L room).2 := by
  have hlt := (List.getElem?_eq_some_iff.1 hk).1
  obtain ⟨m, e, hm⟩ := bst_all (t := t) (wt := wt) (L := L) (room := room) (i := k + 1) hlt
  rw [bst_succ hk] at e
  unfold bstep at e
  rw [if_neg c] at e
  rw [idsL_split hk] at hn
  obtain ⟨_, h2, h3⟩ := List.pairwise_append.1 hn
  have h4 := (List.pairwise_cons.1 h2).1
  have h5 : ∀ x ∈ m, ¬ x = h.r.id := fun x hx ex => h4 x (hm x hx) ex.symm
  rw [e]
  refine ⟨fun x hx => ?_, fun hx => ?_⟩
  · rw [List.getElem?_append_right (Nat.le_refl _), Nat.sub_self] at hx
    exact h5 x (List.mem_of_getElem? hx)
  · rcases List.mem_append.1 hx with hx | hx
    · have : h.r.id ∈ idsL (L.take k) := (bst_mem (L.take k) (room, []) _ hx).resolve_left (by simp)
      exact h3 _ this _ (by simp) rfl
    · exact h5 _ hx rfl
theorem bst_full {t wt room : Int} {L : List Hd} : bst t wt (L.take L.length) room = bst t wt L room := by rw [List.take_length]

theorem Rep.outA {H K : Hp} {F : Ft} {w w' : Rw} {S S' : Bf} {a : AV} {out : List Int} (hH : Rep H F w S) (h : Rep K F w' S') (ho : w'.ord = w.ord) (hO : OutR H.length K a out) : Rep (ownK K a) F w' S' := by
  obtain ⟨l1, l2, l3, l4⟩ := hH.raw.lt
  refine ⟨⟨?_, ?_, ?_, ?_, h.raw.rs, h.raw.rt, h.raw.st⟩, h.cap, h.used, h.time, ?_, h.mr, h.ms, h.mt⟩
  · rw [ownK_low hO.own l1]; exact h.raw.hb
  · rw [ownK_low hO.own l2]; exact h.raw.hr
  · rw [ownK_low hO.own l3]; exact h.raw.hs
  · rw [ownK_low hO.own l4]; exact h.raw.ht
  · refine h.ord.get fun o n v e hb => ?_
    rw [ho] at e
    obtain ⟨v0, h0, _⟩ := hH.ord.blk e
    rw [ownK_low hO.own (List.getElem?_eq_some_iff.1 h0).1]; exact hb

end Go.Proofs.Ytlhchnnfgppneaa.Ab
