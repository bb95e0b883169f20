/- Buffers: bursts, what the law asks for; the burst that is refused. -/
import Derived.Test.YtlhchnnfgppneaaO2
namespace Go.Proofs.Ytlhchnnfgppneaa.Ab
open Go Go.RowKit Go.Proofs
set_option linter.unusedSimpArgs false
set_option linter.unusedVariables false
attribute [local irreducible] Awp wpO thenQ blockQ bodyQ ACalls stepA

theorem idsL_split {L : List Hd} {k : Nat} {h : Hd} (hk : L[k]? = some h) : idsL L = idsL (L.take k) ++ h.r.id :: idsL (L.drop (k + 1)) := by
  have hlt := (List.getElem?_eq_some_iff.1 hk).1
  have e : L = L.take k ++ h :: L.drop (k + 1) := by
    have := List.take_append_drop k L
    rw [List.drop_eq_getElem_cons hlt, (List.getElem?_eq_some_iff.1 hk).2] at this
    exact this.symm
  have e2 := congrArg idsL e
  rw [e2]; simp [idsL]
theorem bst_go {t wt room : Int} {L : List Hd} {k : Nat} {h : Hd} (hk : L[k]? = some h) (c : dueB t wt h = true ∧ h.bytes ≤ (bst t wt (L.take k) room).1) :
    (bst t wt L room).2[(bst t wt (L.take k) room).2.length]? = some h.r.id ∧ h.r.id ∈ (bst t wt L room).2 := by
  have hlt := (List.getElem?_eq_some_iff.1 hk).1
  obtain ⟨m, e, _⟩ := bst_all (t := t) (wt := wt) (L := L) (room := room) (i := k + 1) hlt
  rw [bst_succ hk] at e
  unfold bstep at e
  rw [if_pos c] at e
  rw [e]
  refine ⟨?_, by simp⟩
  simp
theorem bst_no {t wt room : Int} {L : List Hd} {k : Nat} {h : Hd} (hn : (idsL L).Nodup) (hk : L[k]? = some h) (c : ¬ (dueB t wt h = true ∧ h.bytes ≤ (bst t wt (L.take k) room).1)) :
    (∀ x, (bst t wt L room).2[(bst t wt (L.take k) room).2.length]? = some x → ¬ x = h.r.id) ∧ h.r.id ∉ (bst t wt L room).2 := by
  have hlt := (List.getElem?_eq_some_iff.1 hk).1
  obtain ⟨m, e, hm⟩ := bst_all (t := t) (wt := wt) (L := L) (room := room) (i := k + 1) hlt
  rw [bst_succ hk] at e
  unfold bstep at e
  rw [if_neg c] at e
  rw [idsL_split hk] at hn
  obtain ⟨_, h2, h3⟩ := List.pairwise_append.1 hn
  have h4 := (List.pairwise_cons.1 h2).1
  have h5 : ∀ x ∈ m, ¬ x = h.r.id := fun x hx ex => h4 x (hm x hx) ex.symm
  rw [e]
  refine ⟨fun x hx => ?_, fun hx => ?_⟩
  · rw [List.getElem?_append_right (Nat.le_refl _), Nat.sub_self] at hx
    exact h5 x (List.mem_of_getElem? hx)
  · rcases List.mem_append.1 hx with hx | hx
    · have : h.r.id ∈ idsL (L.take k) := (bst_mem (L.take k) (room, []) _ hx).resolve_left (by simp)
      exact h3 _ this _ (by simp) rfl
    · exact h5 _ hx rfl
theorem bst_full {t wt room : Int} {L : List Hd} : bst t wt (L.take L.length) room = bst t wt L room := by rw [List.take_length]

theorem put_good {S : Bf} {r : Item} (hg : Good S) (hl : S.L.length ≤ 255) : Good (putR S r).1 ∧ (putR S r).1.time = S.time ∧ (putR S r).1.L.length ≤ S.L.length + 1 := by
  by_cases h : putE S r = 0
  · have k := kept hg hl h
    exact ⟨k.good, k.time, by have := k.len; omega⟩
  · have : putR S r = (S, []) := by unfold putR; rw [if_neg h]
    rw [this]; exact ⟨hg, rfl, by simp⟩

theorem Rep.outA {H K : Hp} {F : Ft} {w w' : Rw} {S S' : Bf} {a : AV} {out : List Int} (hH : Rep H F w S) (h : Rep K F w' S') (ho : w'.ord = w.ord) (hO : OutR H.length K a out) : Rep (ownK K a) F w' S' := by
  obtain ⟨l1, l2, l3, l4⟩ := hH.raw.lt
  refine ⟨⟨?_, ?_, ?_, ?_, h.raw.rs, h.raw.rt, h.raw.st⟩, h.cap, h.used, h.time, ?_, h.mr, h.ms, h.mt⟩
  · rw [ownK_low hO.own l1]; exact h.raw.hb
  · rw [ownK_low hO.own l2]; exact h.raw.hr
  · rw [ownK_low hO.own l3]; exact h.raw.hs
  · rw [ownK_low hO.own l4]; exact h.raw.ht
  · refine h.ord.get fun o n v e hb => ?_
    rw [ho] at e
    obtain ⟨v0, h0, _⟩ := hH.ord.blk e
    rw [ownK_low hO.own (List.getElem?_eq_some_iff.1 h0).1]; exact hb

set_option maxRecDepth 8000 in
set_option maxHeartbeats 4000000 in
theorem burstErr {H : Hp} {F : Ft} {w : Rw} (hR : RepW H F w) (t : Int) (h2 : t < w.time) :
    ACalls Try.prog 29 [.mptr F.b 0 0, iv 1, iv t, iv 0] H fun v1 H1 => v1 = .tup [nilS, iv 3] := by
  have hA := (Grow.refl H).app [.cells [[iv 1]] 2]
  have hRA := hR.grow hA
  have hv := valid_ok hRA
  have hbA := hRA.hb
  simp only [Rw.cs] at hbA
  have hq0 := get_new H (.cells [[iv 1]] 2)
  have ho1 := fun H => outside_ok H 1 0 16777216
  have ho2 := fun H => outside_ok H t w.time 1073741824
  rw [decide_eq_false (by omega)] at ho1
  rw [decide_eq_true (by omega)] at ho2
  refine ACalls.of_body Try.func29 rfl (by kernel_rfl) (by rw [Try.ntmps29]; simp) ?_; rw [Try.ntmps29]
  repeat' (first | refine spD (fun _ => ?_) (fun _ => ?_) | refine spF (fun _ => ?_) (fun _ => ?_) | (apply gT; (exact rfl)) | (apply off; (exact rfl); (exact rfl)) | (apply condT; (exact rfl)) | (apply condF; (exact rfl)) | ((first | (apply stp0; (exact rfl); (exact rfl)) | (apply stpN0; (exact rfl)) | apply gT | apply condT); (first | (focus (simp only [go_sem, ↓reduceIte, Nat.reduceEqDiff, Nat.reduceBEq, Nat.reduceAdd, Nat.reduceLeDiff, Nat.reduceMul, Nat.reduceLT, Int.reduceToNat, reduceCtorEq, Int.reduceBEq, Int.reduceBNe, Int.reduceLT, Int.reduceLE, Int.reduceGT, Int.reduceGE, hbA, hq0] <;> rfl)) | exact rfl); (first | (fail_if_success (show okD _ _ _ _ _ _ _ _ _)) | (first | exact okT | exact okN | exact okE rfl))) | (apply calTo0; (exact rfl); (iterate 2 (simp only [go_sem, ↓reduceIte, Nat.reduceEqDiff, Nat.reduceBEq, Nat.reduceAdd, Nat.reduceLeDiff, Nat.reduceMul, Nat.reduceLT, Int.reduceToNat, reduceCtorEq, Int.reduceBEq, Int.reduceBNe, Int.reduceLT, Int.reduceLE, Int.reduceGT, Int.reduceGE, hbA, hq0]; rfl)); (first | exact hv | exact ho1 _ | exact ho2 _); (first | exact okT | exact okN | exact okE rfl)) | refine thenQ_n ?_ | refine thenQ_r ?_ | refine thenQ_e ?_ | refine blockQ_n ?_ | refine blockQ_r ?_ | refine blockQ_e ?_ | (apply blockQ_o; (exact rfl)) | refine Awp.seq ?_ | refine Awp.skip ?_ | refine Awp.block ?_ | refine reg (fun s => s == 5 || s == 10) ?_ | (apply drwE mixed (fun s => s == 5 || s == 10); (kernel_rfl)) | refine fin ?_ | refine Awp.ret ?_ | refine Awp.exit ?_ | ((first | (apply off; (exact rfl)) | apply condF); (first | (focus (simp only [go_sem, ↓reduceIte, Nat.reduceEqDiff, Nat.reduceBEq, Nat.reduceAdd, Nat.reduceLeDiff, Nat.reduceMul, Nat.reduceLT, Int.reduceToNat, reduceCtorEq, Int.reduceBEq, Int.reduceBNe, Int.reduceLT, Int.reduceLE, Int.reduceGT, Int.reduceGE, hbA, hq0] <;> rfl)) | exact rfl)))
  all_goals first | contradiction | (exfalso; omega) | skip
  exact bodyQ_mk (vs := [nilS, iv 3]) (.inr rfl) (by rw [Try.results29]; simp only [go_sem, ↓reduceIte, Nat.reduceEqDiff, Nat.reduceBEq, Nat.reduceAdd, Nat.reduceLeDiff, Nat.reduceMul, Nat.reduceLT, Int.reduceToNat, reduceCtorEq, Int.reduceBEq, Int.reduceBNe, Int.reduceLT, Int.reduceLE, Int.reduceGT, Int.reduceGE]) (Vs.refl _ _ _) rfl

end Go.Proofs.Ytlhchnnfgppneaa.Ab
