/- Cables: what is lost. -/
import Derived.Test.YtphfdbmbdaninaaWL
namespace Go.Proofs.Ytphfdbmbdaninaa.Ab
open Go Go.RowKit Go.Proofs
set_option linter.unusedSimpArgs false
set_option linter.unusedVariables false
attribute [local irreducible] Awp wpO thenQ blockQ bodyQ ACalls stepA

/-- a map from integers to integers -/
def mapI (ks : List (Int × Int)) : List (AV × AV) := ks.map fun p => (iv p.1, iv p.2)
def findI (x : Int) : List (Int × Int) → Nat → Option (Nat × Int)
  | [], _ => none
  | p :: l, i => if x = p.1 then some (i, p.2) else findI x l (i + 1)
def getI (x : Int) (ks : List (Int × Int)) : Int := match findI x ks 0 with
  | some p => p.2
  | none => 0
def setI (x v : Int) (ks : List (Int × Int)) : List (Int × Int) := match findI x ks 0 with
  | some p => ks.set p.1 (x, v)
  | none => ks ++ [(x, v)]

theorem findA_I (x : Int) : ∀ (ks : List (Int × Int)) (i : Nat), findA .i64 x (mapI ks) i = some ((findI x ks i).map fun p => (p.1, iv p.2))
  | [], i => rfl
  | p :: l, i => by
    show (if IntKind.i64 = IntKind.i64 then (if x = p.1 then some (some (i, iv p.2)) else findA .i64 x (mapI l) (i + 1)) else none) = _
    rw [if_pos rfl]
    unfold findI
    split
    · rfl
    · exact findA_I x l (i + 1)
theorem findI_none {x : Int} : ∀ {ks : List (Int × Int)} {i : Nat}, findI x ks i = none ↔ x ∉ ks.map (·.1)
  | [], i => by simp [findI]
  | p :: l, i => by
    unfold findI
    split
    · rename_i h; simp [h]
    · rename_i h; rw [findI_none]; simp [h]
theorem findI_some {x : Int} : ∀ {ks : List (Int × Int)} {i j : Nat} {v : Int}, findI x ks i = some (j, v) → i ≤ j ∧ ks[j - i]? = some (x, v)
  | [], i, j, v, h => by cases h
  | p :: l, i, j, v, h => by
    unfold findI at h
    split at h
    · rename_i e; cases h; subst e; simp
    · obtain ⟨h1, h2⟩ := findI_some h
      refine ⟨by omega, ?_⟩
      rw [show j - i = (j - (i + 1)) + 1 by omega]
      simpa using h2

theorem keys_setI (x v : Int) (ks : List (Int × Int)) : (setI x v ks).map (·.1) = if x ∈ ks.map (·.1) then ks.map (·.1) else ks.map (·.1) ++ [x] := by
  unfold setI
  cases h : findI x ks 0 with
  | none =>
    rw [if_neg (findI_none.1 h)]
    simp
  | some p =>
    obtain ⟨j, w⟩ := p
    have hm : x ∈ ks.map (·.1) := by
      rcases Classical.em (x ∈ ks.map (·.1)) with h2 | h2
      · exact h2
      · rw [findI_none.2 h2] at h; cases h
    rw [if_pos hm]
    obtain ⟨_, h2⟩ := findI_some h
    simp only [Nat.sub_zero] at h2
    refine List.ext_getElem? fun i => ?_
    rw [List.getElem?_map, List.getElem?_map, List.getElem?_set]
    by_cases e : j = i
    · subst e
      rw [if_pos rfl, if_pos (List.getElem?_eq_some_iff.1 h2).1, h2]
      rfl
    · rw [if_neg e]

variable {H : Hp} {b : Nat} {ks : List (Int × Int)}
theorem look_I (hb : H[b]? = some (.amap (mapI ks))) (x : Int) (ok : Bool) : lookA Try.prog 110 (.mp b) (iv x) ok H = some (if ok then .tup [iv (getI x ks), bv (decide (x ∈ ks.map (·.1)))] else iv (getI x ks)) := by
  have e1 : Try.prog.underlying 110 = some (.map 3 3) := Try.underlying110
  have e2 : intKey Try.prog 3 = some .i64 := by unfold intKey; rw [Try.underlying3]
  have e3 : zeroV Try.prog 3 = some (.int .i64 0) := by
    have := inf3
    obtain ⟨i, h1, h2, _⟩ := infoA_some this
    unfold zeroV; rw [h1]; exact h2
  have e4 : entsA (.mp b) H = some (mapI ks) := by unfold entsA; simp only [hb]
  unfold lookA
  simp only [e1, e2, e3, e4, findA_I]
  unfold getI
  cases h : findI x ks 0 with
  | none =>
    rw [decide_eq_false (findI_none.1 h)]
    cases ok <;> rfl
  | some p =>
    have hm : x ∈ ks.map (·.1) := by
      rcases Classical.em (x ∈ ks.map (·.1)) with h2 | h2
      · exact h2
      · rw [findI_none.2 h2] at h; cases h
    rw [decide_eq_true hm]
    cases ok <;> rfl
theorem upd_I (hb : H[b]? = some (.amap (mapI ks))) (x v : Int) : updA Try.prog 110 (.mp b) (iv x) (iv v) H = some (H.set b (.amap (mapI (setI x v ks)))) := by
  have e1 : Try.prog.underlying 110 = some (.map 3 3) := Try.underlying110
  have e2 : intKey Try.prog 3 = some .i64 := by unfold intKey; rw [Try.underlying3]
  unfold updA
  simp only [e1, e2, hb, findA_I]
  unfold setI
  cases h : findI x ks 0 with
  | none => simp [mapI]
  | some p => simp [mapI, List.map_set]

/-- what a fault adds -/
def goneStep (l : List Nd) (st : List Int) (G : List Nat) (f : Nat) : List Nat := if f ∈ G then G else G ++ (sub l (opN l st f)).filter fun i => decide (i ∉ G)
/-- what is gone after some faults -/
def gone (l : List Nd) (st : List Int) (fs : List Nat) : List Nat := fs.foldl (goneStep l st) []
def lostL (l : List Nd) (st : List Int) (fs : List Nat) : List Nat := (List.range l.length).filter fun i => decide (i ∈ gone l st fs)

theorem goneStep_nodup {l : List Nd} {st : List Int} {G : List Nat} (hG : G.Nodup) (f : Nat) : (goneStep l st G f).Nodup := by
  unfold goneStep
  split
  · exact hG
  · rw [List.nodup_append]
    refine ⟨hG, ((sub_pair l _).imp (fun h => by omega)).filter _, fun a ha b hb e => ?_⟩
    subst e
    simp at hb
    exact hb.2 ha
theorem goneStep_lt {l : List Nd} {st : List Int} {G : List Nat} (hG : ∀ i ∈ G, i < l.length) (f : Nat) : ∀ i ∈ goneStep l st G f, i < l.length := by
  unfold goneStep
  split
  · exact hG
  · intro i hi
    rcases List.mem_append.1 hi with h | h
    · exact hG i h
    · exact (mem_sub.1 (List.mem_filter.1 h).1).1
theorem gone_all {l : List Nd} {st : List Int} : ∀ (fs : List Nat) (G : List Nat), G.Nodup → (∀ i ∈ G, i < l.length) → (fs.foldl (goneStep l st) G).Nodup ∧ ∀ i ∈ fs.foldl (goneStep l st) G, i < l.length
  | [], G, h1, h2 => ⟨h1, h2⟩
  | f :: fs, G, h1, h2 => gone_all fs _ (goneStep_nodup h1 f) (goneStep_lt h2 f)
theorem gone_nodup (l : List Nd) (st : List Int) (fs : List Nat) : (gone l st fs).Nodup := (gone_all fs [] (by simp) (by simp)).1
theorem gone_lt {l : List Nd} {st : List Int} {fs : List Nat} {i : Nat} (h : i ∈ gone l st fs) : i < l.length := (gone_all fs [] (by simp) (by simp)).2 i h
theorem gone_len (l : List Nd) (st : List Int) (fs : List Nat) : (gone l st fs).length ≤ l.length := nodup_le _ _ (gone_nodup l st fs) fun k h => gone_lt h
theorem gone_take {l : List Nd} {st : List Int} {fs : List Nat} {i f : Nat} (h : fs[i]? = some f) : gone l st (fs.take (i + 1)) = goneStep l st (gone l st (fs.take i)) f := by
  unfold gone
  rw [List.take_add_one, h, List.foldl_append]; rfl

theorem sort_gone (l : List Nd) (st : List Int) (fs : List Nat) : sortS ((gone l st fs).map (fun (n : Nat) => (n : Int))) = (lostL l st fs).map (fun (n : Nat) => (n : Int)) := by
  have hp : (lostL l st fs).Pairwise (· < ·) := List.Pairwise.filter _ List.pairwise_lt_range
  have hperm : (gone l st fs).Perm (lostL l st fs) := by
    rw [List.perm_ext_iff_of_nodup (gone_nodup l st fs) (hp.imp (fun h => by omega))]
    intro i
    unfold lostL
    simp only [List.mem_filter, List.mem_range, decide_eq_true_eq]
    exact ⟨fun h => ⟨gone_lt h, h⟩, fun h => h.2⟩
  refine List.Perm.eq_of_pairwise (le := fun a b => a ≤ b) (fun a b _ _ h1 h2 => Int.le_antisymm h1 h2) (sortS_pair _) ?_ ((sortS_perm _).trans (hperm.map _))
  rw [List.pairwise_map]
  exact hp.imp (by intro a b h; omega)

theorem keys_ok (H : Hp) (m : Nat) : CallsTo Try.prog 88 [.mp m] H (.fn (.func 117) [.mptr H.length 0 0]) (H ++ [.cells [[.mp m]] 110]) := by
  refine ACalls.of_body Try.func88 rfl (by kernel_rfl) (by rw [Try.ntmps88]; simp) ?_; rw [Try.ntmps88]
  repeat' (first | refine spD (fun _ => ?_) (fun _ => ?_) | refine spF (fun _ => ?_) (fun _ => ?_) | (apply gT; (exact rfl)) | (apply off; (exact rfl); (exact rfl)) | (apply condT; (exact rfl)) | (apply condF; (exact rfl)) | ((first | (apply stp0; (exact rfl); (exact rfl)) | (apply stpN0; (exact rfl)) | apply gT | apply condT | ((first | apply bodyQ_d0 | apply bodyQ_d1 | apply bodyQ_d2 | apply bodyQ_d3 | apply bodyQ_d4); (exact .inr rfl); (rw [Try.results88]))); (first | (focus (simp only [go_sem, ↓reduceIte, Nat.reduceEqDiff, Nat.reduceBEq, Nat.reduceAdd, Nat.reduceLeDiff, Nat.reduceMul, Nat.reduceLT, Int.reduceToNat, reduceCtorEq, Int.reduceBEq, Int.reduceBNe, Int.reduceLT, Int.reduceLE, Int.reduceGT, Int.reduceGE] <;> rfl)) | exact rfl); (first | (fail_if_success (show okD _ _ _ _ _ _ _ _ _)) | (first | exact okT | exact okN | exact okE rfl)); (first | (fail_if_success (show Bel _ _)) | (focus first | exact .val _ | (simp [oneOf, Bel_iff_tup, Bel_iff_agg, Bel_iff_rsl, Bel_iff_fn, Bel_iff_rptr, Bel_val]; done)))) | refine thenQ_n ?_ | refine thenQ_r ?_ | refine thenQ_e ?_ | refine blockQ_n ?_ | refine blockQ_r ?_ | refine blockQ_e ?_ | (apply blockQ_o; (exact rfl)) | refine Awp.seq ?_ | refine Awp.skip ?_ | refine Awp.block ?_ | refine reg (fun s => s == 1) ?_ | (apply drwE mixed (fun s => s == 1); (kernel_rfl)) | refine fin ?_ | refine Awp.ret ?_ | refine Awp.exit ?_ | ((first | (apply off; (exact rfl)) | apply condF); (first | (focus (simp only [go_sem, ↓reduceIte, Nat.reduceEqDiff, Nat.reduceBEq, Nat.reduceAdd, Nat.reduceLeDiff, Nat.reduceMul, Nat.reduceLT, Int.reduceToNat, reduceCtorEq, Int.reduceBEq, Int.reduceBNe, Int.reduceLT, Int.reduceLE, Int.reduceGT, Int.reduceGE] <;> rfl)) | exact rfl)))
  exact bodyQ_eq (.inr rfl) (by rw [Try.results88]; simp only [go_sem, ↓reduceIte, Nat.reduceEqDiff, Nat.reduceBEq, Nat.reduceAdd, Nat.reduceLeDiff, Nat.reduceMul, Nat.reduceLT, Int.reduceToNat, reduceCtorEq, Int.reduceBEq, Int.reduceBNe, Int.reduceLT, Int.reduceLE, Int.reduceGT, Int.reduceGE]; rfl) ⟨rfl, rfl⟩

/-- the errors of Lost -/
def lostE (c : Cb) (fs st : List Int) : Int :=
  if c.code ≠ 0 then c.code else if stuckE c.l st ≠ 0 then stuckE c.l st else if fs.length > 60 then 6 else if fs.any (fun f => decide ¬ (1 ≤ f ∧ f < c.l.length)) = true then 3 else 0

theorem asks85 (c : Cb) {b : Nat} (H : Hp) (hb : H[b]? = some (.cells [[treeV c]] 93)) : Asks H 85 [.mptr b 0 0] (fun x => decide ¬ (1 ≤ x ∧ x < c.l.length)) := by
  intro x
  have hh := fun H => has_ok' H c x
  show CallsTo Try.prog 85 [iv x, .mptr b 0 0] H (bv (decide ¬ (1 ≤ x ∧ x < c.l.length))) H
  by_cases h : 0 ≤ x ∧ x < c.l.length
  · rw [decide_eq_true h] at hh
    by_cases h1 : 1 ≤ x
    · rw [decide_eq_false (by omega)]
      refine ACalls.of_body Try.func85 rfl (by kernel_rfl) (by rw [Try.ntmps85]; simp) ?_; rw [Try.ntmps85]
      repeat' (first | refine spD (fun _ => ?_) (fun _ => ?_) | refine spF (fun _ => ?_) (fun _ => ?_) | (apply gT; (exact rfl)) | (apply off; (exact rfl); (exact rfl)) | (apply condT; (exact rfl)) | (apply condF; (exact rfl)) | ((first | (apply stp0; (exact rfl); (exact rfl)) | (apply stpN0; (exact rfl)) | apply gT | apply condT | ((first | apply bodyQ_d0 | apply bodyQ_d1 | apply bodyQ_d2 | apply bodyQ_d3 | apply bodyQ_d4); (exact .inr rfl); (rw [Try.results85]))); (first | (focus (simp only [go_sem, ↓reduceIte, Nat.reduceEqDiff, Nat.reduceBEq, Nat.reduceAdd, Nat.reduceLeDiff, Nat.reduceMul, Nat.reduceLT, Int.reduceToNat, reduceCtorEq, Int.reduceBEq, Int.reduceBNe, Int.reduceLT, Int.reduceLE, Int.reduceGT, Int.reduceGE, hb] <;> rfl)) | exact rfl); (first | (fail_if_success (show okD _ _ _ _ _ _ _ _ _)) | (first | exact okT | exact okN | exact okE rfl)); (first | (fail_if_success (show Bel _ _)) | (focus first | exact .val _ | (simp [oneOf, Bel_iff_tup, Bel_iff_agg, Bel_iff_rsl, Bel_iff_fn, Bel_iff_rptr, Bel_val]; done)))) | (apply calTo0; (exact rfl); (iterate 2 (simp only [go_sem, ↓reduceIte, Nat.reduceEqDiff, Nat.reduceBEq, Nat.reduceAdd, Nat.reduceLeDiff, Nat.reduceMul, Nat.reduceLT, Int.reduceToNat, reduceCtorEq, Int.reduceBEq, Int.reduceBNe, Int.reduceLT, Int.reduceLE, Int.reduceGT, Int.reduceGE, hb]; rfl)); (first | exact hh _); (first | exact okT | exact okN | exact okE rfl)) | refine thenQ_n ?_ | refine thenQ_r ?_ | refine thenQ_e ?_ | refine blockQ_n ?_ | refine blockQ_r ?_ | refine blockQ_e ?_ | (apply blockQ_o; (exact rfl)) | refine Awp.seq ?_ | refine Awp.skip ?_ | refine Awp.block ?_ | refine reg (fun s => false) ?_ | (apply drwE mixed (fun s => false); (kernel_rfl)) | refine fin ?_ | refine Awp.ret ?_ | refine Awp.exit ?_ | ((first | (apply off; (exact rfl)) | apply condF); (first | (focus (simp only [go_sem, ↓reduceIte, Nat.reduceEqDiff, Nat.reduceBEq, Nat.reduceAdd, Nat.reduceLeDiff, Nat.reduceMul, Nat.reduceLT, Int.reduceToNat, reduceCtorEq, Int.reduceBEq, Int.reduceBNe, Int.reduceLT, Int.reduceLE, Int.reduceGT, Int.reduceGE, hb] <;> rfl)) | exact rfl)))
      all_goals first | rfl | (exfalso; omega)
    · rw [decide_eq_true (by omega)]
      refine ACalls.of_body Try.func85 rfl (by kernel_rfl) (by rw [Try.ntmps85]; simp) ?_; rw [Try.ntmps85]
      repeat' (first | refine spD (fun _ => ?_) (fun _ => ?_) | refine spF (fun _ => ?_) (fun _ => ?_) | (apply gT; (exact rfl)) | (apply off; (exact rfl); (exact rfl)) | (apply condT; (exact rfl)) | (apply condF; (exact rfl)) | ((first | (apply stp0; (exact rfl); (exact rfl)) | (apply stpN0; (exact rfl)) | apply gT | apply condT | ((first | apply bodyQ_d0 | apply bodyQ_d1 | apply bodyQ_d2 | apply bodyQ_d3 | apply bodyQ_d4); (exact .inr rfl); (rw [Try.results85]))); (first | (focus (simp only [go_sem, ↓reduceIte, Nat.reduceEqDiff, Nat.reduceBEq, Nat.reduceAdd, Nat.reduceLeDiff, Nat.reduceMul, Nat.reduceLT, Int.reduceToNat, reduceCtorEq, Int.reduceBEq, Int.reduceBNe, Int.reduceLT, Int.reduceLE, Int.reduceGT, Int.reduceGE, hb] <;> rfl)) | exact rfl); (first | (fail_if_success (show okD _ _ _ _ _ _ _ _ _)) | (first | exact okT | exact okN | exact okE rfl)); (first | (fail_if_success (show Bel _ _)) | (focus first | exact .val _ | (simp [oneOf, Bel_iff_tup, Bel_iff_agg, Bel_iff_rsl, Bel_iff_fn, Bel_iff_rptr, Bel_val]; done)))) | (apply calTo0; (exact rfl); (iterate 2 (simp only [go_sem, ↓reduceIte, Nat.reduceEqDiff, Nat.reduceBEq, Nat.reduceAdd, Nat.reduceLeDiff, Nat.reduceMul, Nat.reduceLT, Int.reduceToNat, reduceCtorEq, Int.reduceBEq, Int.reduceBNe, Int.reduceLT, Int.reduceLE, Int.reduceGT, Int.reduceGE, hb]; rfl)); (first | exact hh _); (first | exact okT | exact okN | exact okE rfl)) | refine thenQ_n ?_ | refine thenQ_r ?_ | refine thenQ_e ?_ | refine blockQ_n ?_ | refine blockQ_r ?_ | refine blockQ_e ?_ | (apply blockQ_o; (exact rfl)) | refine Awp.seq ?_ | refine Awp.skip ?_ | refine Awp.block ?_ | refine reg (fun s => false) ?_ | (apply drwE mixed (fun s => false); (kernel_rfl)) | refine fin ?_ | refine Awp.ret ?_ | refine Awp.exit ?_ | ((first | (apply off; (exact rfl)) | apply condF); (first | (focus (simp only [go_sem, ↓reduceIte, Nat.reduceEqDiff, Nat.reduceBEq, Nat.reduceAdd, Nat.reduceLeDiff, Nat.reduceMul, Nat.reduceLT, Int.reduceToNat, reduceCtorEq, Int.reduceBEq, Int.reduceBNe, Int.reduceLT, Int.reduceLE, Int.reduceGT, Int.reduceGE, hb] <;> rfl)) | exact rfl)))
      all_goals first | rfl | (exfalso; omega)
  · rw [decide_eq_false h] at hh
    rw [decide_eq_true (by omega)]
    refine ACalls.of_body Try.func85 rfl (by kernel_rfl) (by rw [Try.ntmps85]; simp) ?_; rw [Try.ntmps85]
    repeat' (first | refine spD (fun _ => ?_) (fun _ => ?_) | refine spF (fun _ => ?_) (fun _ => ?_) | (apply gT; (exact rfl)) | (apply off; (exact rfl); (exact rfl)) | (apply condT; (exact rfl)) | (apply condF; (exact rfl)) | ((first | (apply stp0; (exact rfl); (exact rfl)) | (apply stpN0; (exact rfl)) | apply gT | apply condT | ((first | apply bodyQ_d0 | apply bodyQ_d1 | apply bodyQ_d2 | apply bodyQ_d3 | apply bodyQ_d4); (exact .inr rfl); (rw [Try.results85]))); (first | (focus (simp only [go_sem, ↓reduceIte, Nat.reduceEqDiff, Nat.reduceBEq, Nat.reduceAdd, Nat.reduceLeDiff, Nat.reduceMul, Nat.reduceLT, Int.reduceToNat, reduceCtorEq, Int.reduceBEq, Int.reduceBNe, Int.reduceLT, Int.reduceLE, Int.reduceGT, Int.reduceGE, hb] <;> rfl)) | exact rfl); (first | (fail_if_success (show okD _ _ _ _ _ _ _ _ _)) | (first | exact okT | exact okN | exact okE rfl)); (first | (fail_if_success (show Bel _ _)) | (focus first | exact .val _ | (simp [oneOf, Bel_iff_tup, Bel_iff_agg, Bel_iff_rsl, Bel_iff_fn, Bel_iff_rptr, Bel_val]; done)))) | (apply calTo0; (exact rfl); (iterate 2 (simp only [go_sem, ↓reduceIte, Nat.reduceEqDiff, Nat.reduceBEq, Nat.reduceAdd, Nat.reduceLeDiff, Nat.reduceMul, Nat.reduceLT, Int.reduceToNat, reduceCtorEq, Int.reduceBEq, Int.reduceBNe, Int.reduceLT, Int.reduceLE, Int.reduceGT, Int.reduceGE, hb]; rfl)); (first | exact hh _); (first | exact okT | exact okN | exact okE rfl)) | refine thenQ_n ?_ | refine thenQ_r ?_ | refine thenQ_e ?_ | refine blockQ_n ?_ | refine blockQ_r ?_ | refine blockQ_e ?_ | (apply blockQ_o; (exact rfl)) | refine Awp.seq ?_ | refine Awp.skip ?_ | refine Awp.block ?_ | refine reg (fun s => false) ?_ | (apply drwE mixed (fun s => false); (kernel_rfl)) | refine fin ?_ | refine Awp.ret ?_ | refine Awp.exit ?_ | ((first | (apply off; (exact rfl)) | apply condF); (first | (focus (simp only [go_sem, ↓reduceIte, Nat.reduceEqDiff, Nat.reduceBEq, Nat.reduceAdd, Nat.reduceLeDiff, Nat.reduceMul, Nat.reduceLT, Int.reduceToNat, reduceCtorEq, Int.reduceBEq, Int.reduceBNe, Int.reduceLT, Int.reduceLE, Int.reduceGT, Int.reduceGE, hb] <;> rfl)) | exact rfl)))
    all_goals first | rfl | (exfalso; omega)

end Go.Proofs.Ytphfdbmbdaninaa.Ab
