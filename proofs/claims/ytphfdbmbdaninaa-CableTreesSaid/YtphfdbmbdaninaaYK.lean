/- Cables: the tree of a cable. Cables: paths and subtrees. Cables: a path, step by step. -/
import Derived.Test.YtphfdbmbdaninaaYJ
namespace Go.Proofs.Ytphfdbmbdaninaa.Ab
open Go Go.RowKit Go.Proofs
set_option linter.unusedSimpArgs false
set_option linter.unusedVariables false
attribute [local irreducible] Awp wpO thenQ blockQ bodyQ ACalls stepA

/-- the nodes from 1 to i that a node leads to -/
def kids (l : List Nd) (p : Nat) : Nat → List Int
  | 0 => []
  | i + 1 => kids l p i ++ (match l[i + 1]? with
    | some a => if a.par = p then [((i + 1 : Nat) : Int)] else []
    | none => [])

theorem kids_succ {l : List Nd} {p i : Nat} {a : Nd} (h : l[i + 1]? = some a) : kids l p (i + 1) = kids l p i ++ (if a.par = p then [((i + 1 : Nat) : Int)] else []) := by
  simp only [kids, h]

def rowF (l : List Nd) (p : Nat) : AV := if kids l p (l.length - 1) = [] then nilS else .rsl (ints (kids l p (l.length - 1))) false
/-- all that the nodes lead to -/
def nextV (l : List Nd) : AV := .rsl ((List.range l.length).map fun p => [rowF l p]) false
def treeV (c : Cb) : AV := .rptr (c.cs ++ [nextV c.l]) 0

structure OpI (H : Hp) (l : List Nd) (i : Nat) (H' : Hp) (rows : List (List AV)) (f : Nat → Nat) : Prop where
  len : H.length < H'.length
  old : ∀ j, j < H.length → H'[j]? = H[j]?
  rn : rows.length = l.length
  row : H'[H.length]? = some (.cells rows 42)
  non : ∀ p, p < l.length → kids l p i = [] → rows[p]? = some [nilS]
  own : ∀ p, p < l.length → kids l p i ≠ [] → rows[p]? = some [.msl (f p) 0 (kids l p i).length] ∧ H.length < f p ∧ f p < H'.length ∧ H'[f p]? = some (.cells (ints (kids l p i)) 3)
  inj : ∀ p q, p < l.length → q < l.length → kids l p i ≠ [] → kids l q i ≠ [] → f p = f q → p = q

theorem kids_le {l : List Nd} {p : Nat} : ∀ {i : Nat}, (kids l p i).length ≤ i
  | 0 => by simp [kids]
  | i + 1 => by
    have := kids_le (l := l) (p := p) (i := i)
    simp only [kids, List.length_append]
    split
    · split <;> simp <;> omega
    · simp; omega

theorem OpI.step {H : Hp} {l : List Nd} {i : Nat} {H' D : Hp} {rows : List (List AV)} {f : Nat → Nat} {a : Nd} {p0 : Nat} (hI : OpI H l i H' rows f) (ha : l[i + 1]? = some a) (hp : a.par = p0) (hp0 : p0 < l.length)
    (hl : D.length = H'.length + 1) (hD : ∀ j, j < H'.length → (kids l p0 i = [] ∨ j ≠ f p0) → D[j]? = H'[j]?) :
    OpI H l (i + 1) ((D ++ [AObj.cells (ints (kids l p0 i ++ [((i + 1 : Nat) : Int)])) 3]).set H.length (.cells (rows.set p0 [.msl D.length 0 ((kids l p0 i).length + 1)]) 42)) (rows.set p0 [.msl D.length 0 ((kids l p0 i).length + 1)]) (fun p => if p = p0 then D.length else f p) := by
  have hlen := hI.len
  have hk : ∀ p, kids l p (i + 1) = if p = p0 then kids l p0 i ++ [((i + 1 : Nat) : Int)] else kids l p i := fun p => by
    rw [kids_succ ha, hp]
    by_cases e : p = p0
    · subst e; rw [if_pos rfl, if_pos rfl]
    · rw [if_neg (by omega), if_neg e, List.append_nil]
  have hget : ∀ j, j < H'.length → j ≠ H.length → (kids l p0 i = [] ∨ j ≠ f p0) → ((D ++ [AObj.cells (ints (kids l p0 i ++ [((i + 1 : Nat) : Int)])) 3]).set H.length (.cells (rows.set p0 [.msl D.length 0 ((kids l p0 i).length + 1)]) 42))[j]? = H'[j]? := fun j h1 h2 h3 => by
    rw [List.getElem?_set_ne (Ne.symm h2), List.getElem?_append_left (by omega)]
    exact hD j h1 h3
  refine ⟨by simp; omega, fun j hj => ?_, by simp [hI.rn], ?_, fun p hp' h => ?_, fun p hp' h => ?_, fun p q hp' hq' h h' e => ?_⟩
  · rw [hget j (by omega) (by omega) ?_]
    · exact hI.old j hj
    · by_cases e : kids l p0 i = []
      · exact .inl e
      · have := (hI.own p0 hp0 e).2.1
        exact .inr (by omega)
  · rw [List.getElem?_set_self (by simp; omega)]
  · rw [hk] at h
    by_cases e : p = p0
    · rw [if_pos e] at h; simp at h
    · rw [if_neg e] at h
      rw [List.getElem?_set_ne (fun h => e h.symm)]
      exact hI.non p hp' h
  · simp only [hk] at h ⊢
    by_cases e : p = p0
    · subst e
      simp only [if_true]
      refine ⟨by rw [List.getElem?_set_self (by rw [hI.rn]; exact hp'), List.length_append]; rfl, by omega, by simp, ?_⟩
      rw [List.getElem?_set_ne (by omega), List.getElem?_append_right (Nat.le_refl _)]
      simp
    · simp only [if_neg e] at h ⊢
      obtain ⟨k1, k2, k3, k4⟩ := hI.own p hp' h
      refine ⟨by rw [List.getElem?_set_ne (fun h => e h.symm)]; exact k1, k2, by simp; omega, ?_⟩
      rw [hget _ k3 (by omega) ?_]
      · exact k4
      · by_cases e0 : kids l p0 i = []
        · exact .inl e0
        · exact .inr fun h2 => e (hI.inj p p0 hp' hp0 h e0 h2)
  · simp only [hk] at h h'
    by_cases e1 : p = p0
    · by_cases e2 : q = p0
      · rw [e1, e2]
      · simp only [if_pos e1, if_neg e2] at e h'
        have := (hI.own q hq' h').2.2.1
        omega
    · by_cases e2 : q = p0
      · simp only [if_neg e1, if_pos e2] at e h
        have := (hI.own p hp' h).2.2.1
        omega
      · simp only [if_neg e1, if_neg e2] at e h h'
        exact hI.inj p q hp' hq' h h' e

structure FrI (H : Hp) (l : List Nd) (m : Nat) (H' : Hp) (rows : List (List AV)) (f : Nat → Nat) : Prop where
  len : H.length < H'.length
  old : ∀ j, j < H.length → H'[j]? = H[j]?
  rn : rows.length = l.length
  row : H'[H.length]? = some (.cells rows 42)
  did : ∀ p, p < m → rows[p]? = some [rowF l p]
  non : ∀ p, m ≤ p → p < l.length → kids l p (l.length - 1) = [] → rows[p]? = some [nilS]
  own : ∀ p, m ≤ p → p < l.length → kids l p (l.length - 1) ≠ [] → rows[p]? = some [.msl (f p) 0 (kids l p (l.length - 1)).length] ∧ H.length < f p ∧ H'[f p]? = some (.cells (ints (kids l p (l.length - 1))) 3)
  inj : ∀ p q, m ≤ p → m ≤ q → p < l.length → q < l.length → kids l p (l.length - 1) ≠ [] → kids l q (l.length - 1) ≠ [] → f p = f q → p = q

theorem freezeRows {H H' : Hp} {l : List Nd} {rows : List (List AV)} {f : Nat → Nat} (hI : OpI H l (l.length - 1) H' rows f) (a : AV) : ∀ m, m ≤ l.length → ∃ H2 rows2, Vs H a H' a H2 ∧ FrI H l m H2 rows2 f
  | 0, _ => ⟨H', rows, Vs.refl _ _ _, hI.len, hI.old, hI.rn, hI.row, fun p h => absurd h (Nat.not_lt_zero _), fun p _ h h2 => hI.non p h h2, fun p _ h h2 => ⟨(hI.own p h h2).1, (hI.own p h h2).2.1, (hI.own p h h2).2.2.2⟩, fun p q _ _ h1 h2 h3 h4 h5 => hI.inj p q h1 h2 h3 h4 h5⟩
  | m + 1, hm => by
    obtain ⟨H2, rows2, hV, hF⟩ := freezeRows hI a m (by omega)
    by_cases hk : kids l m (l.length - 1) = []
    · refine ⟨H2, rows2, hV, hF.len, hF.old, hF.rn, hF.row, fun p hp => ?_, fun p h1 => hF.non p (by omega), fun p h1 => hF.own p (by omega), fun p q h1 h2 => hF.inj p q (by omega) (by omega)⟩
      by_cases e : p = m
      · subst e
        rw [hF.non p (Nat.le_refl _) (by omega) hk]
        unfold rowF
        rw [if_pos hk]
      · exact hF.did p (by omega)
    · obtain ⟨h1, h2, h3⟩ := hF.own m (Nat.le_refl _) (by omega) hk
      have hf := Vs.freezeRow (H0 := H) (a := a) (Nat.ne_of_lt h2) hF.row h1 h3 (by simp [ints])
      rw [List.take_of_length_le (by simp [ints])] at hf
      refine ⟨_, rows2.set m [.rsl (ints (kids l m (l.length - 1))) false], hV.trans hf, by simpa using hF.len, fun j hj => ?_, by simpa using hF.rn, ?_, fun p hp => ?_, fun p h4 h5 h6 => ?_, fun p h4 h5 h6 => ?_, fun p q h1 h2 => hF.inj p q (by omega) (by omega)⟩
      · rw [List.getElem?_set_ne (by omega), List.getElem?_set_ne (by omega)]
        exact hF.old j hj
      · rw [List.getElem?_set_self (by simpa using hF.len)]
      · by_cases e : p = m
        · subst e
          rw [List.getElem?_set_self (by rw [hF.rn]; omega)]
          unfold rowF
          rw [if_neg hk]
        · rw [List.getElem?_set_ne (fun h => e h.symm)]
          exact hF.did p (by omega)
      · rw [List.getElem?_set_ne (by omega)]
        exact hF.non p (by omega) h5 h6
      · obtain ⟨k1, k2, k3⟩ := hF.own p (by omega) h5 h6
        refine ⟨by rw [List.getElem?_set_ne (by omega)]; exact k1, k2, ?_⟩
        rw [List.getElem?_set_ne (by omega), List.getElem?_set_ne (fun e => by have := hF.inj m p (Nat.le_refl _) (by omega) (by omega) h5 hk h6 e; omega)]
        exact k3

theorem rowsF_eq {l : List Nd} {rows : List (List AV)} (hn : rows.length = l.length) (h : ∀ p, p < l.length → rows[p]? = some [rowF l p]) : rows = (List.range l.length).map fun p => [rowF l p] := by
  refine List.ext_getElem? fun p => ?_
  rw [List.getElem?_map]
  by_cases hp : p < l.length
  · rw [h p hp, List.getElem?_range hp]; rfl
  · rw [List.getElem?_eq_none (by omega), List.getElem?_eq_none (by simp; omega)]; rfl

theorem heapOld {H K : Hp} (h : ∀ i, i < H.length → K[i]? = H[i]?) (hl : H.length ≤ K.length) : K = H ++ K.drop H.length := by
  refine List.ext_getElem? fun i => ?_
  by_cases hi : i < H.length
  · rw [h i hi, List.getElem?_append_left hi]
  · rw [List.getElem?_append_right (by omega), List.getElem?_drop]
    congr 1
    omega

theorem rowF_bel (l : List Nd) (p m : Nat) : Bel m (rowF l p) := by
  unfold rowF
  split
  · exact .val _
  · simp [Bel_iff_rsl, ints, Bel_val]

/-- the tree that is handed back never turns again -/
theorem openEnd {H H' : Hp} {c : Cb} {rows : List (List AV)} {f : Nat → Nat} (hI : OpI H c.l (c.l.length - 1) H' rows f) : Vs H (.tup [.rptr (c.cs ++ [.msl H.length 0 c.l.length]) 0, iv 0]) H' (.tup [treeV c, iv 0]) H := by
  obtain ⟨H2, rows2, hV, hF⟩ := freezeRows hI (.tup [.rptr (c.cs ++ [.msl H.length 0 c.l.length]) 0, iv 0]) c.l.length (Nat.le_refl _)
  refine hV.trans ?_
  have hr := rowsF_eq hF.rn (fun p hp => hF.did p hp)
  have hfz : Vs H (.tup [.rptr (c.cs ++ [.msl H.length 0 c.l.length]) 0, iv 0]) H2 (.tup [treeV c, iv 0]) (H2.set H.length .dead) := by
    refine Vs.freezeV hF.row (.tup rfl fun i a a' ha ha' => ?_)
    match i with
    | 0 =>
      cases ha
      cases ha'
      refine .rptr (by simp) fun i a a' ha ha' => ?_
      by_cases hi : i < c.cs.length
      · rw [List.getElem?_append_left hi] at ha ha'
        rw [ha] at ha'
        cases ha'
        exact .same _
      · rw [List.getElem?_append_right (by omega)] at ha ha'
        match h : i - c.cs.length with
        | 0 =>
          rw [h] at ha ha'
          cases ha
          cases ha'
          have := Fz.here (b := H.length) (es := rows2) (off := 0) (len := c.l.length) (by rw [hF.rn]; omega)
          rw [List.drop_zero, List.take_of_length_le (by rw [hF.rn]; exact Nat.le_refl _), hr] at this
          rw [hr]
          exact this
        | k + 1 => rw [h] at ha; simp at ha
    | 1 => cases ha; cases ha'; exact .same _
    | k + 2 => simp at ha
  refine hfz.trans ?_
  rw [heapOld (H := H) (K := H2.set H.length .dead) (fun i hi => by rw [List.getElem?_set_ne (by omega)]; exact hF.old i hi) (by simp; exact Nat.le_of_lt hF.len)]
  refine Vs.drop ?_
  simp only [Bel_iff_tup, List.mem_cons, List.not_mem_nil, or_false, forall_eq_or_imp, forall_eq]
  refine ⟨?_, .val _⟩
  unfold treeV nextV
  rw [Bel_iff_rptr]
  intro a ha
  simp only [Cb.cs, List.cons_append, List.nil_append, List.mem_cons, List.not_mem_nil, or_false] at ha
  rcases ha with rfl | rfl | rfl | rfl
  · exact .val _
  · exact .val _
  · simp [Bel_iff_rsl, Nd.cs, Bel_val]
  · simp only [Bel_iff_rsl, List.mem_map, List.mem_range]
    rintro e ⟨p, _, rfl⟩ a ha
    simp only [List.mem_cons, List.not_mem_nil, or_false] at ha
    subst ha
    exact rowF_bel _ _ _

theorem open_no (H : Hp) (c : Cb) (h : c.code ≠ 0) : CallsTo Try.prog 68 [.agg c.cs] H (.tup [nilP, iv c.code]) H := by
  refine ACalls.of_body Try.func68 rfl (by kernel_rfl) (by rw [Try.ntmps68]; simp) ?_; rw [Try.ntmps68]
  repeat' ((fail_if_success (apply stopR (id := 4))); (fail_if_success (apply stopS (id := 4))); first | refine spD (fun _ => ?_) (fun _ => ?_) | refine spF (fun _ => ?_) (fun _ => ?_) | ((first | (apply stp0; (exact rfl); (exact rfl)) | (apply stpN0; (exact rfl))); (simp only [go_sem, ↓reduceIte, Nat.reduceEqDiff, Nat.reduceBEq, Nat.reduceAdd, Nat.reduceLeDiff, Nat.reduceMul, Nat.reduceLT, Int.reduceToNat, reduceCtorEq, Int.reduceBEq, Int.reduceBNe, Int.reduceLT, Int.reduceLE, Int.reduceGT, Int.reduceGE, Cb.cs]; rfl); (first | exact okT | exact okN | exact okE rfl)) | (apply gT; (exact rfl)) | (apply off; (exact rfl); (exact rfl)) | (apply calTo0; (exact rfl); (iterate 2 (simp only [go_sem, ↓reduceIte, Nat.reduceEqDiff, Nat.reduceBEq, Nat.reduceAdd, Nat.reduceLeDiff, Nat.reduceMul, Nat.reduceLT, Int.reduceToNat, reduceCtorEq, Int.reduceBEq, Int.reduceBNe, Int.reduceLT, Int.reduceLE, Int.reduceGT, Int.reduceGE, Cb.cs]; rfl)); (first | exact Check_ok _ c); (first | exact okT | exact okN | exact okE rfl)) | refine thenQ_n ?_ | refine thenQ_r ?_ | refine thenQ_e ?_ | refine blockQ_n ?_ | refine blockQ_r ?_ | refine blockQ_e ?_ | (apply blockQ_o; (exact rfl)) | refine Awp.seq ?_ | refine Awp.skip ?_ | refine Awp.block ?_ | refine reg (fun s => s == 7) ?_ | (apply drwE mixed (fun s => s == 7); (kernel_rfl)) | refine fin ?_ | (apply condT; (exact rfl)) | (apply condF; (exact rfl)) | refine Awp.ret ?_ | refine Awp.exit ?_ | ((first | apply bodyQ_d0 | apply bodyQ_d1 | apply bodyQ_d2 | apply bodyQ_d3 | apply bodyQ_d4); (exact .inr rfl); (rw [Try.results68]; simp only [go_sem, ↓reduceIte, Nat.reduceEqDiff, Nat.reduceBEq, Nat.reduceAdd, Nat.reduceLeDiff, Nat.reduceMul, Nat.reduceLT, Int.reduceToNat, reduceCtorEq, Int.reduceBEq, Int.reduceBNe, Int.reduceLT, Int.reduceLE, Int.reduceGT, Int.reduceGE, Cb.cs]; rfl); (first | (show Bel _ _; (focus first | exact .val _ | (simp [oneOf, Bel_iff_tup, Bel_iff_agg, Bel_iff_rsl, Bel_iff_fn, Bel_iff_rptr, Bel_val]; done))) | (fail_if_success (show Bel _ _)))) | ((first | apply gT | apply condT); (first | (focus (simp only [go_sem, ↓reduceIte, Nat.reduceEqDiff, Nat.reduceBEq, Nat.reduceAdd, Nat.reduceLeDiff, Nat.reduceMul, Nat.reduceLT, Int.reduceToNat, reduceCtorEq, Int.reduceBEq, Int.reduceBNe, Int.reduceLT, Int.reduceLE, Int.reduceGT, Int.reduceGE, Cb.cs] <;> rfl)) | exact rfl)) | ((first | (apply off; (exact rfl)) | apply condF); (first | (focus (simp only [go_sem, ↓reduceIte, Nat.reduceEqDiff, Nat.reduceBEq, Nat.reduceAdd, Nat.reduceLeDiff, Nat.reduceMul, Nat.reduceLT, Int.reduceToNat, reduceCtorEq, Int.reduceBEq, Int.reduceBNe, Int.reduceLT, Int.reduceLE, Int.reduceGT, Int.reduceGE, Cb.cs] <;> rfl)) | exact rfl)))
  all_goals first | rfl | (exfalso; exact h (by assumption))

set_option maxRecDepth 8000 in
set_option maxHeartbeats 4000000 in
theorem open_ok (H : Hp) (c : Cb) (h : c.good) : CallsTo Try.prog 68 [.agg c.cs] H (.tup [treeV c, iv 0]) H := by
  obtain ⟨h1, h20, hs, hn⟩ := h.h
  have hc0 := h.2
  have hk := fun H => Check_ok H c
  rw [hc0] at hk
  obtain ⟨s, l, ex⟩ := c
  simp only [] at h1 h20 hs hn
  have hm : l.length ≤ maxLen := by simp only [maxLen]; omega
  have n0 : (0 : Int) ≤ (l.length : Int) := by omega
  have n1 : ((24 : Nat) : Int) * (l.length : Int) ≤ 281474976710656 := by omega
  have n2 : (24 : Int) * (l.length : Int) ≤ 281474976710656 := by omega
  have n3 : (l.length : Int) ≤ 9223372036854775807 := by omega
  have hsl : sliceA Try.prog 24 (.rsl (l.map Nd.cs) ex) (some (.val (.int .i64 1))) none none = some (.rsl ((l.map Nd.cs).drop 1) ex) := by
    rw [sl24]
    unfold sliceB bnd
    have e1 : (l.map Nd.cs)[1]?.map List.length = some 8 ∨ 1 = (l.map Nd.cs).length := by
      rcases Nat.lt_or_ge 1 l.length with h | h
      · obtain ⟨a, ha⟩ := nth h
        exact .inl (by rw [List.getElem?_map, ha]; rfl)
      · exact .inr (by simp; omega)
    simp only [show (0 : Int) ≤ 1 by omega, if_true, Option.isSome_none, Bool.false_eq_true, if_false, false_implies, and_true, Int.toNat_one, List.take_length]
    rw [if_pos ⟨by simp; omega, Nat.le_refl _, Nat.le_refl _, e1.symm⟩]
    simp
  refine ACalls.of_body Try.func68 rfl (by kernel_rfl) (by rw [Try.ntmps68]; simp) ?_; rw [Try.ntmps68]
  repeat' ((fail_if_success (apply stopR (id := 5))); (fail_if_success (apply stopS (id := 5))); first | refine spD (fun _ => ?_) (fun _ => ?_) | refine spF (fun _ => ?_) (fun _ => ?_) | ((first | (apply stp0; (exact rfl); (exact rfl)) | (apply stpN0; (exact rfl))); (simp only [go_sem, ↓reduceIte, Nat.reduceEqDiff, Nat.reduceBEq, Nat.reduceAdd, Nat.reduceLeDiff, Nat.reduceMul, Nat.reduceLT, Int.reduceToNat, reduceCtorEq, Int.reduceBEq, Int.reduceBNe, Int.reduceLT, Int.reduceLE, Int.reduceGT, Int.reduceGE, Cb.cs, n0, n1, n2, n3, and_self]; rfl); (first | exact trivial | exact ⟨fun _ => rfl, fun _ _ => rfl, fun h => Bool.noConfusion (show false = true from h)⟩ | (refine ⟨fun _ => rfl, fun _ _ => rfl, fun _ H2 _ => ?_⟩; unfold PerfTo; simp only [callOf]; (focus first | (simp only [go_sem, ↓reduceIte, Nat.reduceEqDiff, Nat.reduceBEq, Nat.reduceAdd, Nat.reduceLeDiff, Nat.reduceMul, Nat.reduceLT, Int.reduceToNat, reduceCtorEq, Int.reduceBEq, Int.reduceBNe, Int.reduceLT, Int.reduceLE, Int.reduceGT, Int.reduceGE, Cb.cs, n0, n1, n2, n3, and_self]; done) | (simp only [go_sem, ↓reduceIte, Nat.reduceEqDiff, Nat.reduceBEq, Nat.reduceAdd, Nat.reduceLeDiff, Nat.reduceMul, Nat.reduceLT, Int.reduceToNat, reduceCtorEq, Int.reduceBEq, Int.reduceBNe, Int.reduceLT, Int.reduceLE, Int.reduceGT, Int.reduceGE, Cb.cs, n0, n1, n2, n3, and_self]; rfl))) | exact ⟨fun h => Bool.noConfusion (show true = false from h), fun _ h => Bool.noConfusion (show false = true from h), fun h => Bool.noConfusion (show false = true from h)⟩)) | (apply gT; (exact rfl)) | (apply off; (exact rfl); (exact rfl)) | (apply calTo0; (exact rfl); (iterate 2 (simp only [go_sem, ↓reduceIte, Nat.reduceEqDiff, Nat.reduceBEq, Nat.reduceAdd, Nat.reduceLeDiff, Nat.reduceMul, Nat.reduceLT, Int.reduceToNat, reduceCtorEq, Int.reduceBEq, Int.reduceBNe, Int.reduceLT, Int.reduceLE, Int.reduceGT, Int.reduceGE, Cb.cs, n0, n1, n2, n3, and_self]; rfl)); (first | (exact hk _; (first | (first | exact trivial | exact ⟨fun _ => rfl, fun _ _ => rfl, fun h => Bool.noConfusion (show false = true from h)⟩ | (refine ⟨fun _ => rfl, fun _ _ => rfl, fun _ H2 _ => ?_⟩; unfold PerfTo; simp only [callOf]; (focus first | (simp only [go_sem, ↓reduceIte, Nat.reduceEqDiff, Nat.reduceBEq, Nat.reduceAdd, Nat.reduceLeDiff, Nat.reduceMul, Nat.reduceLT, Int.reduceToNat, reduceCtorEq, Int.reduceBEq, Int.reduceBNe, Int.reduceLT, Int.reduceLE, Int.reduceGT, Int.reduceGE, Cb.cs, n0, n1, n2, n3, and_self]; done) | (simp only [go_sem, ↓reduceIte, Nat.reduceEqDiff, Nat.reduceBEq, Nat.reduceAdd, Nat.reduceLeDiff, Nat.reduceMul, Nat.reduceLT, Int.reduceToNat, reduceCtorEq, Int.reduceBEq, Int.reduceBNe, Int.reduceLT, Int.reduceLE, Int.reduceGT, Int.reduceGE, Cb.cs, n0, n1, n2, n3, and_self]; rfl))) | exact ⟨fun h => Bool.noConfusion (show true = false from h), fun _ h => Bool.noConfusion (show false = true from h), fun h => Bool.noConfusion (show false = true from h)⟩) | exact ⟨fun _ => rfl, fun _ _ => rfl, fun _ H2 _ => perf_call (by (first | (focus (simp only [go_sem, ↓reduceIte, Nat.reduceEqDiff, Nat.reduceBEq, Nat.reduceAdd, Nat.reduceLeDiff, Nat.reduceMul, Nat.reduceLT, Int.reduceToNat, reduceCtorEq, Int.reduceBEq, Int.reduceBNe, Int.reduceLT, Int.reduceLE, Int.reduceGT, Int.reduceGE, Cb.cs, n0, n1, n2, n3, and_self] <;> rfl)) | exact rfl)) (by (first | (focus (simp only [go_sem, ↓reduceIte, Nat.reduceEqDiff, Nat.reduceBEq, Nat.reduceAdd, Nat.reduceLeDiff, Nat.reduceMul, Nat.reduceLT, Int.reduceToNat, reduceCtorEq, Int.reduceBEq, Int.reduceBNe, Int.reduceLT, Int.reduceLE, Int.reduceGT, Int.reduceGE, Cb.cs, n0, n1, n2, n3, and_self] <;> rfl)) | exact rfl)) (hk _)⟩)))) | refine thenQ_n ?_ | refine thenQ_r ?_ | refine thenQ_e ?_ | refine blockQ_n ?_ | refine blockQ_r ?_ | refine blockQ_e ?_ | (apply blockQ_o; (exact rfl)) | refine Awp.seq ?_ | refine Awp.skip ?_ | refine Awp.block ?_ | refine reg (fun s => s == 7) ?_ | (apply drw mixed (fun s => s == 7) ⟨fun i => i == 4 || i == 6, fun i => i == 0 || i == 2 || i == 3, fun _ => false⟩; (kernel_rfl)) | refine fin ?_ | (apply condT; (exact rfl)) | (apply condF; (exact rfl)) | refine Awp.ret ?_ | refine Awp.exit ?_ | ((first | apply bodyQ_d0 | apply bodyQ_d1 | apply bodyQ_d2 | apply bodyQ_d3 | apply bodyQ_d4); (exact .inr rfl); (rw [Try.results68]; simp only [go_sem, ↓reduceIte, Nat.reduceEqDiff, Nat.reduceBEq, Nat.reduceAdd, Nat.reduceLeDiff, Nat.reduceMul, Nat.reduceLT, Int.reduceToNat, reduceCtorEq, Int.reduceBEq, Int.reduceBNe, Int.reduceLT, Int.reduceLE, Int.reduceGT, Int.reduceGE, Cb.cs, n0, n1, n2, n3, and_self]; rfl); (first | (show Bel _ _; (focus first | exact .val _ | (simp [oneOf, Bel_iff_tup, Bel_iff_agg, Bel_iff_rsl, Bel_iff_fn, Bel_iff_rptr, Bel_val]; done))) | (fail_if_success (show Bel _ _)))) | ((first | apply gT | apply condT); (first | (focus (simp only [go_sem, ↓reduceIte, Nat.reduceEqDiff, Nat.reduceBEq, Nat.reduceAdd, Nat.reduceLeDiff, Nat.reduceMul, Nat.reduceLT, Int.reduceToNat, reduceCtorEq, Int.reduceBEq, Int.reduceBNe, Int.reduceLT, Int.reduceLE, Int.reduceGT, Int.reduceGE, Cb.cs, n0, n1, n2, n3, and_self] <;> rfl)) | exact rfl)) | ((first | (apply off; (exact rfl)) | apply condF); (first | (focus (simp only [go_sem, ↓reduceIte, Nat.reduceEqDiff, Nat.reduceBEq, Nat.reduceAdd, Nat.reduceLeDiff, Nat.reduceMul, Nat.reduceLT, Int.reduceToNat, reduceCtorEq, Int.reduceBEq, Int.reduceBNe, Int.reduceLT, Int.reduceLE, Int.reduceGT, Int.reduceGE, Cb.cs, n0, n1, n2, n3, and_self] <;> rfl)) | exact rfl)))
  have hdl : ((l.map Nd.cs).drop 1).length = l.length - 1 := by simp
  repeat' ((fail_if_success (apply stopR (id := 6))); (fail_if_success (apply stopS (id := 6))); first | refine spD (fun _ => ?_) (fun _ => ?_) | refine spF (fun _ => ?_) (fun _ => ?_) | ((first | (apply stp0; (exact rfl); (exact rfl)) | (apply stpN0; (exact rfl))); (simp only [go_sem, ↓reduceIte, Nat.reduceEqDiff, Nat.reduceBEq, Nat.reduceAdd, Nat.reduceLeDiff, Nat.reduceMul, Nat.reduceLT, Int.reduceToNat, reduceCtorEq, Int.reduceBEq, Int.reduceBNe, Int.reduceLT, Int.reduceLE, Int.reduceGT, Int.reduceGE, hdl, hsl]; rfl); (first | exact okT | exact okN | exact okE rfl)) | (apply gT; (exact rfl)) | (apply off; (exact rfl); (exact rfl)) | refine thenQ_n ?_ | refine thenQ_r ?_ | refine thenQ_e ?_ | refine blockQ_n ?_ | refine blockQ_r ?_ | refine blockQ_e ?_ | (apply blockQ_o; (exact rfl)) | refine Awp.seq ?_ | refine Awp.skip ?_ | refine Awp.block ?_ | refine reg (fun s => s == 7) ?_ | (apply drwE mixed (fun s => s == 7); (kernel_rfl)) | refine fin ?_ | (apply condT; (exact rfl)) | (apply condF; (exact rfl)) | refine Awp.ret ?_ | refine Awp.exit ?_ | ((first | apply bodyQ_d0 | apply bodyQ_d1 | apply bodyQ_d2 | apply bodyQ_d3 | apply bodyQ_d4); (exact .inr rfl); (rw [Try.results68]; simp only [go_sem, ↓reduceIte, Nat.reduceEqDiff, Nat.reduceBEq, Nat.reduceAdd, Nat.reduceLeDiff, Nat.reduceMul, Nat.reduceLT, Int.reduceToNat, reduceCtorEq, Int.reduceBEq, Int.reduceBNe, Int.reduceLT, Int.reduceLE, Int.reduceGT, Int.reduceGE, hdl, hsl]; rfl); (first | (show Bel _ _; (focus first | exact .val _ | (simp [oneOf, Bel_iff_tup, Bel_iff_agg, Bel_iff_rsl, Bel_iff_fn, Bel_iff_rptr, Bel_val]; done))) | (fail_if_success (show Bel _ _)))) | ((first | apply gT | apply condT); (first | (focus (simp only [go_sem, ↓reduceIte, Nat.reduceEqDiff, Nat.reduceBEq, Nat.reduceAdd, Nat.reduceLeDiff, Nat.reduceMul, Nat.reduceLT, Int.reduceToNat, reduceCtorEq, Int.reduceBEq, Int.reduceBNe, Int.reduceLT, Int.reduceLE, Int.reduceGT, Int.reduceGE, hdl, hsl] <;> rfl)) | exact rfl)) | ((first | (apply off; (exact rfl)) | apply condF); (first | (focus (simp only [go_sem, ↓reduceIte, Nat.reduceEqDiff, Nat.reduceBEq, Nat.reduceAdd, Nat.reduceLeDiff, Nat.reduceMul, Nat.reduceLT, Int.reduceToNat, reduceCtorEq, Int.reduceBEq, Int.reduceBNe, Int.reduceLT, Int.reduceLE, Int.reduceGT, Int.reduceGE, hdl, hsl] <;> rfl)) | exact rfl)))
  refine Awp.loop (ι := Nat) (fun i T' H' => i ≤ l.length - 1 ∧ T' 24 = iv i ∧ T' 22 = .rsl ((l.map Nd.cs).drop 1) ex ∧ T' 23 = iv ((l.length - 1 : Nat) : Int) ∧ T' 5 = .rptr [iv s.lo, iv s.hi, .rsl (l.map Nd.cs) ex, .msl H.length 0 l.length] 0 ∧ T' 3 = iv 0 ∧ ∃ rows f, OpI H l i H' rows f) (fun i => l.length - 1 - i) 0 ?_ ?_
  · refine ⟨by simp, ?_, ?_, ?_, ?_, ?_, List.replicate l.length [nilS], fun _ => 0, ?_⟩
    · simp only [go_sem, ↓reduceIte, Nat.reduceEqDiff, Nat.reduceBEq, Nat.reduceAdd, Nat.reduceLeDiff, Nat.reduceMul, Nat.reduceLT, Int.reduceToNat, reduceCtorEq, Int.reduceBEq, Int.reduceBNe, Int.reduceLT, Int.reduceLE, Int.reduceGT, Int.reduceGE]; rfl
    · simp only [go_sem, ↓reduceIte, Nat.reduceEqDiff, Nat.reduceBEq, Nat.reduceAdd, Nat.reduceLeDiff, Nat.reduceMul, Nat.reduceLT, Int.reduceToNat, reduceCtorEq, Int.reduceBEq, Int.reduceBNe, Int.reduceLT, Int.reduceLE, Int.reduceGT, Int.reduceGE]
    · simp only [go_sem, ↓reduceIte, Nat.reduceEqDiff, Nat.reduceBEq, Nat.reduceAdd, Nat.reduceLeDiff, Nat.reduceMul, Nat.reduceLT, Int.reduceToNat, reduceCtorEq, Int.reduceBEq, Int.reduceBNe, Int.reduceLT, Int.reduceLE, Int.reduceGT, Int.reduceGE]
    · simp only [go_sem, ↓reduceIte, Nat.reduceEqDiff, Nat.reduceBEq, Nat.reduceAdd, Nat.reduceLeDiff, Nat.reduceMul, Nat.reduceLT, Int.reduceToNat, reduceCtorEq, Int.reduceBEq, Int.reduceBNe, Int.reduceLT, Int.reduceLE, Int.reduceGT, Int.reduceGE]
    · simp only [go_sem, ↓reduceIte, Nat.reduceEqDiff, Nat.reduceBEq, Nat.reduceAdd, Nat.reduceLeDiff, Nat.reduceMul, Nat.reduceLT, Int.reduceToNat, reduceCtorEq, Int.reduceBEq, Int.reduceBNe, Int.reduceLT, Int.reduceLE, Int.reduceGT, Int.reduceGE]
    · refine ⟨by simp, fun j hj => List.getElem?_append_left hj, by simp, get_new _ _, fun p hp _ => by simp [hp], fun p hp h => absurd rfl h, fun p q _ _ h => absurd rfl h⟩
  rintro i T H' ⟨hi, h24, h22, h23, h5, h3, rows, f, hI⟩
  by_cases hlt : i < l.length - 1
  · obtain ⟨a, ha⟩ := nth (show i + 1 < l.length by omega)
    obtain ⟨par, olo, ohi, lim, llo, lhi, least, delay⟩ := a
    have hnd := (hn (i + 1) _ ha).1
    unfold headOk at hnd
    simp only [] at hnd
    obtain ⟨p0, rfl⟩ := Int.eq_ofNat_of_zero_le (show 0 ≤ par by omega)
    have hac := nthMap Nd.cs ha
    have hdr : ((l.map Nd.cs).drop 1)[i]? = some (Nd.cs ⟨p0, olo, ohi, lim, llo, lhi, least, delay⟩) := by rw [List.getElem?_drop, Nat.add_comm]; exact hac
    simp only [Nd.cs] at hdr
    have hp0n : p0 < l.length := by omega
    have hw : IntKind.i64.wrap ((i : Int) + 1) = ((i + 1 : Nat) : Int) := wsucc hlt (by omega)
    have hb0 := held hI.row
    have hrn := hI.rn
    have hlen := hI.len
    have hp0r : p0 < rows.length := by omega
    by_cases hk0 : kids l p0 i = []
    · have hrow := hI.non p0 hp0n hk0
      repeat' ((fail_if_success (apply stopR (id := 8))); (fail_if_success (apply stopS (id := 8))); first | refine spD (fun _ => ?_) (fun _ => ?_) | refine spF (fun _ => ?_) (fun _ => ?_) | ((first | (apply stp0; (exact rfl); (exact rfl)) | (apply stpN0; (exact rfl))); (simp only [go_sem, ↓reduceIte, Nat.reduceEqDiff, Nat.reduceBEq, Nat.reduceAdd, Nat.reduceLeDiff, Nat.reduceMul, Nat.reduceLT, Int.reduceToNat, reduceCtorEq, Int.reduceBEq, Int.reduceBNe, Int.reduceLT, Int.reduceLE, Int.reduceGT, Int.reduceGE, h24, h22, h23, h5, h3, hdr, hdl]; rfl); (first | exact okT | exact okN | exact okE rfl)) | (apply gT; (exact rfl)) | (apply off; (exact rfl); (exact rfl)) | refine thenQ_n ?_ | refine thenQ_r ?_ | refine thenQ_e ?_ | refine blockQ_n ?_ | refine blockQ_r ?_ | refine blockQ_e ?_ | (apply blockQ_o; (exact rfl)) | refine Awp.seq ?_ | refine Awp.skip ?_ | refine Awp.block ?_ | refine reg (fun s => s == 7) ?_ | (apply drwE mixed (fun s => s == 7); (kernel_rfl)) | refine fin ?_ | (apply condT; (exact rfl)) | (apply condF; (exact rfl)) | refine Awp.ret ?_ | refine Awp.exit ?_ | ((first | apply bodyQ_d0 | apply bodyQ_d1 | apply bodyQ_d2 | apply bodyQ_d3 | apply bodyQ_d4); (exact .inr rfl); (rw [Try.results68]; simp only [go_sem, ↓reduceIte, Nat.reduceEqDiff, Nat.reduceBEq, Nat.reduceAdd, Nat.reduceLeDiff, Nat.reduceMul, Nat.reduceLT, Int.reduceToNat, reduceCtorEq, Int.reduceBEq, Int.reduceBNe, Int.reduceLT, Int.reduceLE, Int.reduceGT, Int.reduceGE, h24, h22, h23, h5, h3, hdr, hdl]; rfl); (first | (show Bel _ _; (focus first | exact .val _ | (simp [oneOf, Bel_iff_tup, Bel_iff_agg, Bel_iff_rsl, Bel_iff_fn, Bel_iff_rptr, Bel_val]; done))) | (fail_if_success (show Bel _ _)))) | ((first | apply gT | apply condT); (first | (focus (simp only [go_sem, ↓reduceIte, Nat.reduceEqDiff, Nat.reduceBEq, Nat.reduceAdd, Nat.reduceLeDiff, Nat.reduceMul, Nat.reduceLT, Int.reduceToNat, reduceCtorEq, Int.reduceBEq, Int.reduceBNe, Int.reduceLT, Int.reduceLE, Int.reduceGT, Int.reduceGE, h24, h22, h23, h5, h3, hdr, hdl] <;> rfl)) | exact rfl)) | ((first | (apply off; (exact rfl)) | apply condF); (first | (focus (simp only [go_sem, ↓reduceIte, Nat.reduceEqDiff, Nat.reduceBEq, Nat.reduceAdd, Nat.reduceLeDiff, Nat.reduceMul, Nat.reduceLT, Int.reduceToNat, reduceCtorEq, Int.reduceBEq, Int.reduceBNe, Int.reduceLT, Int.reduceLE, Int.reduceGT, Int.reduceGE, h24, h22, h23, h5, h3, hdr, hdl] <;> rfl)) | exact rfl)))
      all_goals first | (exfalso; omega) | skip
      repeat' (first | refine spD (fun _ => ?_) (fun _ => ?_) | refine spF (fun _ => ?_) (fun _ => ?_) | ((first | (apply stp0; (exact rfl); (exact rfl)) | (apply stpN0; (exact rfl))); (simp only [go_sem, ↓reduceIte, Nat.reduceEqDiff, Nat.reduceBEq, Nat.reduceAdd, Nat.reduceLeDiff, Nat.reduceMul, Nat.reduceLT, Int.reduceToNat, reduceCtorEq, Int.reduceBEq, Int.reduceBNe, Int.reduceLT, Int.reduceLE, Int.reduceGT, Int.reduceGE, h24, h22, h23, h5, h3, hb0, hrow, Nat.zero_add, hrn, hp0n, hw]; rfl); (first | exact trivial | exact ⟨fun _ => rfl, fun _ _ => rfl, fun h => Bool.noConfusion (show false = true from h)⟩ | (refine ⟨fun _ => rfl, fun _ _ => rfl, fun _ H2 hk => ?_⟩; have e := (hk (H'.length) (beq_self_eq_true _)).trans (get_new H' _); unfold PerfTo; simp only [callOf]; (focus first | (simp only [go_sem, ↓reduceIte, Nat.reduceEqDiff, Nat.reduceBEq, Nat.reduceAdd, Nat.reduceLeDiff, Nat.reduceMul, Nat.reduceLT, Int.reduceToNat, reduceCtorEq, Int.reduceBEq, Int.reduceBNe, Int.reduceLT, Int.reduceLE, Int.reduceGT, Int.reduceGE, h24, h22, h23, h5, h3, hb0, hrow, Nat.zero_add, hrn, hp0n, hw, e]; done) | (simp only [go_sem, ↓reduceIte, Nat.reduceEqDiff, Nat.reduceBEq, Nat.reduceAdd, Nat.reduceLeDiff, Nat.reduceMul, Nat.reduceLT, Int.reduceToNat, reduceCtorEq, Int.reduceBEq, Int.reduceBNe, Int.reduceLT, Int.reduceLE, Int.reduceGT, Int.reduceGE, h24, h22, h23, h5, h3, hb0, hrow, Nat.zero_add, hrn, hp0n, hw, e]; rfl))) | (refine ⟨fun h => Bool.noConfusion (show true = false from h), fun b hb => ?_, fun h => Bool.noConfusion (show false = true from h)⟩; have hb' := eq_of_beq hb; subst hb'; first | rfl | exact List.getElem?_append_left (by simp) | exact List.getElem?_set_ne (by omega) | (rw [List.getElem?_append_left (by simp), List.getElem?_set_ne (by omega)])))) | (apply gT; (exact rfl)) | (apply off; (exact rfl); (exact rfl)) | refine thenQ_n ?_ | refine thenQ_r ?_ | refine thenQ_e ?_ | refine blockQ_n ?_ | refine blockQ_r ?_ | refine blockQ_e ?_ | (apply blockQ_o; (exact rfl)) | refine Awp.seq ?_ | refine Awp.skip ?_ | refine Awp.block ?_ | refine reg (fun s => s == 7) ?_ | (apply drw mixed (fun s => s == 7) ⟨fun i => i == 12 || i == 13 || i == 17 || i == 18 || i == 19, fun i => i == 3 || i == 5 || i == 9 || i == 11, fun b => b == H'.length⟩; (kernel_rfl)) | refine fin ?_ | (apply condT; (exact rfl)) | (apply condF; (exact rfl)) | refine Awp.ret ?_ | refine Awp.exit ?_ | ((first | apply bodyQ_d0 | apply bodyQ_d1 | apply bodyQ_d2 | apply bodyQ_d3 | apply bodyQ_d4); (exact .inr rfl); (rw [Try.results68]; simp only [go_sem, ↓reduceIte, Nat.reduceEqDiff, Nat.reduceBEq, Nat.reduceAdd, Nat.reduceLeDiff, Nat.reduceMul, Nat.reduceLT, Int.reduceToNat, reduceCtorEq, Int.reduceBEq, Int.reduceBNe, Int.reduceLT, Int.reduceLE, Int.reduceGT, Int.reduceGE, h24, h22, h23, h5, h3, hb0, hrow, Nat.zero_add, hrn, hp0n, hw]; rfl); (first | (show Bel _ _; (focus first | exact .val _ | (simp [oneOf, Bel_iff_tup, Bel_iff_agg, Bel_iff_rsl, Bel_iff_fn, Bel_iff_rptr, Bel_val]; done))) | (fail_if_success (show Bel _ _)))) | ((first | apply gT | apply condT); (first | (focus (simp only [go_sem, ↓reduceIte, Nat.reduceEqDiff, Nat.reduceBEq, Nat.reduceAdd, Nat.reduceLeDiff, Nat.reduceMul, Nat.reduceLT, Int.reduceToNat, reduceCtorEq, Int.reduceBEq, Int.reduceBNe, Int.reduceLT, Int.reduceLE, Int.reduceGT, Int.reduceGE, h24, h22, h23, h5, h3, hb0, hrow, Nat.zero_add, hrn, hp0n, hw] <;> rfl)) | exact rfl)) | ((first | (apply off; (exact rfl)) | apply condF); (first | (focus (simp only [go_sem, ↓reduceIte, Nat.reduceEqDiff, Nat.reduceBEq, Nat.reduceAdd, Nat.reduceLeDiff, Nat.reduceMul, Nat.reduceLT, Int.reduceToNat, reduceCtorEq, Int.reduceBEq, Int.reduceBNe, Int.reduceLT, Int.reduceLE, Int.reduceGT, Int.reduceGE, h24, h22, h23, h5, h3, hb0, hrow, Nat.zero_add, hrn, hp0n, hw] <;> rfl)) | exact rfl)))
      have st := hI.step ha rfl hp0n (D := H' ++ [AObj.cells [[iv (p0 : Int), iv olo, iv ohi, iv lim, iv llo, iv lhi, iv least, iv delay]] 37]) (by simp) (fun j h1 _ => List.getElem?_append_left h1)
      rw [hk0] at st
      refine ⟨i + 1, ⟨by omega, ?_, ?_, ?_, ?_, ?_, _, _, st⟩, by omega⟩
      · simp only [go_sem, ↓reduceIte, Nat.reduceEqDiff, Nat.reduceBEq, Nat.reduceAdd, Nat.reduceLeDiff, Nat.reduceMul, Nat.reduceLT, Int.reduceToNat, reduceCtorEq, Int.reduceBEq, Int.reduceBNe, Int.reduceLT, Int.reduceLE, Int.reduceGT, Int.reduceGE]
      · simp only [go_sem, ↓reduceIte, Nat.reduceEqDiff, Nat.reduceBEq, Nat.reduceAdd, Nat.reduceLeDiff, Nat.reduceMul, Nat.reduceLT, Int.reduceToNat, reduceCtorEq, Int.reduceBEq, Int.reduceBNe, Int.reduceLT, Int.reduceLE, Int.reduceGT, Int.reduceGE, h22]
      · simp only [go_sem, ↓reduceIte, Nat.reduceEqDiff, Nat.reduceBEq, Nat.reduceAdd, Nat.reduceLeDiff, Nat.reduceMul, Nat.reduceLT, Int.reduceToNat, reduceCtorEq, Int.reduceBEq, Int.reduceBNe, Int.reduceLT, Int.reduceLE, Int.reduceGT, Int.reduceGE, h23]
      · simp only [go_sem, ↓reduceIte, Nat.reduceEqDiff, Nat.reduceBEq, Nat.reduceAdd, Nat.reduceLeDiff, Nat.reduceMul, Nat.reduceLT, Int.reduceToNat, reduceCtorEq, Int.reduceBEq, Int.reduceBNe, Int.reduceLT, Int.reduceLE, Int.reduceGT, Int.reduceGE, h5]
      · simp only [go_sem, ↓reduceIte, Nat.reduceEqDiff, Nat.reduceBEq, Nat.reduceAdd, Nat.reduceLeDiff, Nat.reduceMul, Nat.reduceLT, Int.reduceToNat, reduceCtorEq, Int.reduceBEq, Int.reduceBNe, Int.reduceLT, Int.reduceLE, Int.reduceGT, Int.reduceGE, h3]
    · obtain ⟨hrow, hf1, hf2, hblk⟩ := hI.own p0 hp0n hk0
      have hC := held hblk
      have hki : (ints (kids l p0 i)).length = (kids l p0 i).length := ints_len _
      have hpos : 0 < (kids l p0 i).length := by
        rcases Nat.eq_zero_or_pos (kids l p0 i).length with h | h
        · exact absurd (List.eq_nil_of_length_eq_zero h) hk0
        · exact h
      have hle : (kids l p0 i).length ≤ i := kids_le
      have hb2 : ∀ x blk, ((H' ++ [x]).set (f p0) .dead ++ [blk])[H.length]? = some (.cells rows 42) := fun x blk => by
        rw [List.getElem?_append_left (by simp; omega), List.getElem?_set_ne (by omega), List.getElem?_append_left hlen]
        exact hI.row
      have hall : (ints (kids l p0 i)).all (fun e => e.length == 1) = true := by simp [ints]
      have hby : ((kids l p0 i).length + 1) * 8 ≤ 140737488355328 := by omega
      have htk : (ints (kids l p0 i)).take (kids l p0 i).length = ints (kids l p0 i) := List.take_of_length_le (by omega)
      have hkk := Nat.le_refl (kids l p0 i).length
      repeat' ((fail_if_success (apply stopR (id := 8))); (fail_if_success (apply stopS (id := 8))); first | refine spD (fun _ => ?_) (fun _ => ?_) | refine spF (fun _ => ?_) (fun _ => ?_) | ((first | (apply stp0; (exact rfl); (exact rfl)) | (apply stpN0; (exact rfl))); (simp only [go_sem, ↓reduceIte, Nat.reduceEqDiff, Nat.reduceBEq, Nat.reduceAdd, Nat.reduceLeDiff, Nat.reduceMul, Nat.reduceLT, Int.reduceToNat, reduceCtorEq, Int.reduceBEq, Int.reduceBNe, Int.reduceLT, Int.reduceLE, Int.reduceGT, Int.reduceGE, h24, h22, h23, h5, h3, hdr, hdl]; rfl); (first | exact okT | exact okN | exact okE rfl)) | (apply gT; (exact rfl)) | (apply off; (exact rfl); (exact rfl)) | refine thenQ_n ?_ | refine thenQ_r ?_ | refine thenQ_e ?_ | refine blockQ_n ?_ | refine blockQ_r ?_ | refine blockQ_e ?_ | (apply blockQ_o; (exact rfl)) | refine Awp.seq ?_ | refine Awp.skip ?_ | refine Awp.block ?_ | refine reg (fun s => s == 7) ?_ | (apply drwE mixed (fun s => s == 7); (kernel_rfl)) | refine fin ?_ | (apply condT; (exact rfl)) | (apply condF; (exact rfl)) | refine Awp.ret ?_ | refine Awp.exit ?_ | ((first | apply bodyQ_d0 | apply bodyQ_d1 | apply bodyQ_d2 | apply bodyQ_d3 | apply bodyQ_d4); (exact .inr rfl); (rw [Try.results68]; simp only [go_sem, ↓reduceIte, Nat.reduceEqDiff, Nat.reduceBEq, Nat.reduceAdd, Nat.reduceLeDiff, Nat.reduceMul, Nat.reduceLT, Int.reduceToNat, reduceCtorEq, Int.reduceBEq, Int.reduceBNe, Int.reduceLT, Int.reduceLE, Int.reduceGT, Int.reduceGE, h24, h22, h23, h5, h3, hdr, hdl]; rfl); (first | (show Bel _ _; (focus first | exact .val _ | (simp [oneOf, Bel_iff_tup, Bel_iff_agg, Bel_iff_rsl, Bel_iff_fn, Bel_iff_rptr, Bel_val]; done))) | (fail_if_success (show Bel _ _)))) | ((first | apply gT | apply condT); (first | (focus (simp only [go_sem, ↓reduceIte, Nat.reduceEqDiff, Nat.reduceBEq, Nat.reduceAdd, Nat.reduceLeDiff, Nat.reduceMul, Nat.reduceLT, Int.reduceToNat, reduceCtorEq, Int.reduceBEq, Int.reduceBNe, Int.reduceLT, Int.reduceLE, Int.reduceGT, Int.reduceGE, h24, h22, h23, h5, h3, hdr, hdl] <;> rfl)) | exact rfl)) | ((first | (apply off; (exact rfl)) | apply condF); (first | (focus (simp only [go_sem, ↓reduceIte, Nat.reduceEqDiff, Nat.reduceBEq, Nat.reduceAdd, Nat.reduceLeDiff, Nat.reduceMul, Nat.reduceLT, Int.reduceToNat, reduceCtorEq, Int.reduceBEq, Int.reduceBNe, Int.reduceLT, Int.reduceLE, Int.reduceGT, Int.reduceGE, h24, h22, h23, h5, h3, hdr, hdl] <;> rfl)) | exact rfl)))
      all_goals first | (exfalso; omega) | skip
      repeat' (first | refine spD (fun _ => ?_) (fun _ => ?_) | refine spF (fun _ => ?_) (fun _ => ?_) | ((first | (apply stp0; (exact rfl); (exact rfl)) | (apply stpN0; (exact rfl))); (simp only [go_sem, ↓reduceIte, Nat.reduceEqDiff, Nat.reduceBEq, Nat.reduceAdd, Nat.reduceLeDiff, Nat.reduceMul, Nat.reduceLT, Int.reduceToNat, reduceCtorEq, Int.reduceBEq, Int.reduceBNe, Int.reduceLT, Int.reduceLE, Int.reduceGT, Int.reduceGE, h24, h22, h23, h5, h3, hb0, hrow, Nat.zero_add, hrn, hp0n, hw, hC, hki, hpos, hall, hby, htk, hkk, hb2]; rfl); (first | exact trivial | exact ⟨fun _ => rfl, fun _ _ => rfl, fun h => Bool.noConfusion (show false = true from h)⟩ | (refine ⟨fun _ => rfl, fun _ _ => rfl, fun _ H2 hk => ?_⟩; have e := (hk (H'.length) (beq_self_eq_true _)).trans (get_new H' _); unfold PerfTo; simp only [callOf]; (focus first | (simp only [go_sem, ↓reduceIte, Nat.reduceEqDiff, Nat.reduceBEq, Nat.reduceAdd, Nat.reduceLeDiff, Nat.reduceMul, Nat.reduceLT, Int.reduceToNat, reduceCtorEq, Int.reduceBEq, Int.reduceBNe, Int.reduceLT, Int.reduceLE, Int.reduceGT, Int.reduceGE, h24, h22, h23, h5, h3, hb0, hrow, Nat.zero_add, hrn, hp0n, hw, hC, hki, hpos, hall, hby, htk, hkk, hb2, e]; done) | (simp only [go_sem, ↓reduceIte, Nat.reduceEqDiff, Nat.reduceBEq, Nat.reduceAdd, Nat.reduceLeDiff, Nat.reduceMul, Nat.reduceLT, Int.reduceToNat, reduceCtorEq, Int.reduceBEq, Int.reduceBNe, Int.reduceLT, Int.reduceLE, Int.reduceGT, Int.reduceGE, h24, h22, h23, h5, h3, hb0, hrow, Nat.zero_add, hrn, hp0n, hw, hC, hki, hpos, hall, hby, htk, hkk, hb2, e]; rfl))) | (refine ⟨fun h => Bool.noConfusion (show true = false from h), fun b hb => ?_, fun h => Bool.noConfusion (show false = true from h)⟩; have hb' := eq_of_beq hb; subst hb'; first | rfl | exact List.getElem?_append_left (by simp) | exact List.getElem?_set_ne (by omega) | (rw [List.getElem?_append_left (by simp), List.getElem?_set_ne (by omega)])))) | (apply gT; (exact rfl)) | (apply off; (exact rfl); (exact rfl)) | refine thenQ_n ?_ | refine thenQ_r ?_ | refine thenQ_e ?_ | refine blockQ_n ?_ | refine blockQ_r ?_ | refine blockQ_e ?_ | (apply blockQ_o; (exact rfl)) | refine Awp.seq ?_ | refine Awp.skip ?_ | refine Awp.block ?_ | refine reg (fun s => s == 7) ?_ | (apply drw mixed (fun s => s == 7) ⟨fun i => i == 12 || i == 13 || i == 17 || i == 18 || i == 19, fun i => i == 3 || i == 5 || i == 9 || i == 11, fun b => b == H'.length⟩; (kernel_rfl)) | refine fin ?_ | (apply condT; (exact rfl)) | (apply condF; (exact rfl)) | refine Awp.ret ?_ | refine Awp.exit ?_ | ((first | apply bodyQ_d0 | apply bodyQ_d1 | apply bodyQ_d2 | apply bodyQ_d3 | apply bodyQ_d4); (exact .inr rfl); (rw [Try.results68]; simp only [go_sem, ↓reduceIte, Nat.reduceEqDiff, Nat.reduceBEq, Nat.reduceAdd, Nat.reduceLeDiff, Nat.reduceMul, Nat.reduceLT, Int.reduceToNat, reduceCtorEq, Int.reduceBEq, Int.reduceBNe, Int.reduceLT, Int.reduceLE, Int.reduceGT, Int.reduceGE, h24, h22, h23, h5, h3, hb0, hrow, Nat.zero_add, hrn, hp0n, hw, hC, hki, hpos, hall, hby, htk, hkk, hb2]; rfl); (first | (show Bel _ _; (focus first | exact .val _ | (simp [oneOf, Bel_iff_tup, Bel_iff_agg, Bel_iff_rsl, Bel_iff_fn, Bel_iff_rptr, Bel_val]; done))) | (fail_if_success (show Bel _ _)))) | ((first | apply gT | apply condT); (first | (focus (simp only [go_sem, ↓reduceIte, Nat.reduceEqDiff, Nat.reduceBEq, Nat.reduceAdd, Nat.reduceLeDiff, Nat.reduceMul, Nat.reduceLT, Int.reduceToNat, reduceCtorEq, Int.reduceBEq, Int.reduceBNe, Int.reduceLT, Int.reduceLE, Int.reduceGT, Int.reduceGE, h24, h22, h23, h5, h3, hb0, hrow, Nat.zero_add, hrn, hp0n, hw, hC, hki, hpos, hall, hby, htk, hkk, hb2] <;> rfl)) | exact rfl)) | ((first | (apply off; (exact rfl)) | apply condF); (first | (focus (simp only [go_sem, ↓reduceIte, Nat.reduceEqDiff, Nat.reduceBEq, Nat.reduceAdd, Nat.reduceLeDiff, Nat.reduceMul, Nat.reduceLT, Int.reduceToNat, reduceCtorEq, Int.reduceBEq, Int.reduceBNe, Int.reduceLT, Int.reduceLE, Int.reduceGT, Int.reduceGE, h24, h22, h23, h5, h3, hb0, hrow, Nat.zero_add, hrn, hp0n, hw, hC, hki, hpos, hall, hby, htk, hkk, hb2] <;> rfl)) | exact rfl)))
      have st := hI.step ha rfl hp0n (D := (H' ++ [AObj.cells [[iv (p0 : Int), iv olo, iv ohi, iv lim, iv llo, iv lhi, iv least, iv delay]] 37]).set (f p0) .dead) (by simp)
        (fun j h1 h2 => by rw [List.getElem?_set_ne (fun e => (h2.elim (fun h => hk0 h) (fun h => h e.symm))), List.getElem?_append_left h1])
      have happ : ints (kids l p0 i ++ [((i + 1 : Nat) : Int)]) = ints (kids l p0 i) ++ [[iv ((i + 1 : Nat) : Int)]] := by simp [ints]
      rw [happ, List.length_set] at st
      refine ⟨i + 1, ⟨by omega, ?_, ?_, ?_, ?_, ?_, _, _, st⟩, by omega⟩
      · simp only [go_sem, ↓reduceIte, Nat.reduceEqDiff, Nat.reduceBEq, Nat.reduceAdd, Nat.reduceLeDiff, Nat.reduceMul, Nat.reduceLT, Int.reduceToNat, reduceCtorEq, Int.reduceBEq, Int.reduceBNe, Int.reduceLT, Int.reduceLE, Int.reduceGT, Int.reduceGE]
      · simp only [go_sem, ↓reduceIte, Nat.reduceEqDiff, Nat.reduceBEq, Nat.reduceAdd, Nat.reduceLeDiff, Nat.reduceMul, Nat.reduceLT, Int.reduceToNat, reduceCtorEq, Int.reduceBEq, Int.reduceBNe, Int.reduceLT, Int.reduceLE, Int.reduceGT, Int.reduceGE, h22]
      · simp only [go_sem, ↓reduceIte, Nat.reduceEqDiff, Nat.reduceBEq, Nat.reduceAdd, Nat.reduceLeDiff, Nat.reduceMul, Nat.reduceLT, Int.reduceToNat, reduceCtorEq, Int.reduceBEq, Int.reduceBNe, Int.reduceLT, Int.reduceLE, Int.reduceGT, Int.reduceGE, h23]
      · simp only [go_sem, ↓reduceIte, Nat.reduceEqDiff, Nat.reduceBEq, Nat.reduceAdd, Nat.reduceLeDiff, Nat.reduceMul, Nat.reduceLT, Int.reduceToNat, reduceCtorEq, Int.reduceBEq, Int.reduceBNe, Int.reduceLT, Int.reduceLE, Int.reduceGT, Int.reduceGE, h5]
      · simp only [go_sem, ↓reduceIte, Nat.reduceEqDiff, Nat.reduceBEq, Nat.reduceAdd, Nat.reduceLeDiff, Nat.reduceMul, Nat.reduceLT, Int.reduceToNat, reduceCtorEq, Int.reduceBEq, Int.reduceBNe, Int.reduceLT, Int.reduceLE, Int.reduceGT, Int.reduceGE, h3]
  · have hil : i = l.length - 1 := by omega
    subst hil
    repeat' (first | refine spD (fun _ => ?_) (fun _ => ?_) | refine spF (fun _ => ?_) (fun _ => ?_) | ((first | (apply stp0; (exact rfl); (exact rfl)) | (apply stpN0; (exact rfl))); (simp only [go_sem, ↓reduceIte, Nat.reduceEqDiff, Nat.reduceBEq, Nat.reduceAdd, Nat.reduceLeDiff, Nat.reduceMul, Nat.reduceLT, Int.reduceToNat, reduceCtorEq, Int.reduceBEq, Int.reduceBNe, Int.reduceLT, Int.reduceLE, Int.reduceGT, Int.reduceGE, h24, h22, h23, h5, h3]; rfl); (first | exact okT | exact okN | exact okE rfl)) | (apply gT; (exact rfl)) | (apply off; (exact rfl); (exact rfl)) | refine thenQ_n ?_ | refine thenQ_r ?_ | refine thenQ_e ?_ | refine blockQ_n ?_ | refine blockQ_r ?_ | refine blockQ_e ?_ | (apply blockQ_o; (exact rfl)) | refine Awp.seq ?_ | refine Awp.skip ?_ | refine Awp.block ?_ | refine reg (fun s => s == 7) ?_ | (apply drwE mixed (fun s => s == 7); (kernel_rfl)) | refine fin ?_ | (apply condT; (exact rfl)) | (apply condF; (exact rfl)) | refine Awp.ret ?_ | refine Awp.exit ?_ | ((first | apply bodyQ_d0 | apply bodyQ_d1 | apply bodyQ_d2 | apply bodyQ_d3 | apply bodyQ_d4); (exact .inr rfl); (rw [Try.results68]; simp only [go_sem, ↓reduceIte, Nat.reduceEqDiff, Nat.reduceBEq, Nat.reduceAdd, Nat.reduceLeDiff, Nat.reduceMul, Nat.reduceLT, Int.reduceToNat, reduceCtorEq, Int.reduceBEq, Int.reduceBNe, Int.reduceLT, Int.reduceLE, Int.reduceGT, Int.reduceGE, h24, h22, h23, h5, h3]; rfl); (first | (show Bel _ _; (focus first | exact .val _ | (simp [oneOf, Bel_iff_tup, Bel_iff_agg, Bel_iff_rsl, Bel_iff_fn, Bel_iff_rptr, Bel_val]; done))) | (fail_if_success (show Bel _ _)))) | ((first | apply gT | apply condT); (first | (focus (simp only [go_sem, ↓reduceIte, Nat.reduceEqDiff, Nat.reduceBEq, Nat.reduceAdd, Nat.reduceLeDiff, Nat.reduceMul, Nat.reduceLT, Int.reduceToNat, reduceCtorEq, Int.reduceBEq, Int.reduceBNe, Int.reduceLT, Int.reduceLE, Int.reduceGT, Int.reduceGE, h24, h22, h23, h5, h3] <;> rfl)) | exact rfl)) | ((first | (apply off; (exact rfl)) | apply condF); (first | (focus (simp only [go_sem, ↓reduceIte, Nat.reduceEqDiff, Nat.reduceBEq, Nat.reduceAdd, Nat.reduceLeDiff, Nat.reduceMul, Nat.reduceLT, Int.reduceToNat, reduceCtorEq, Int.reduceBEq, Int.reduceBNe, Int.reduceLT, Int.reduceLE, Int.reduceGT, Int.reduceGE, h24, h22, h23, h5, h3] <;> rfl)) | exact rfl)))
    all_goals first | (exfalso; omega) | skip
    refine bodyQ_mk (vs := [.rptr [iv s.lo, iv s.hi, .rsl (l.map Nd.cs) ex, .msl H.length 0 l.length] 0, iv 0]) (.inr rfl) ?_ (openEnd (c := ⟨s, l, ex⟩) hI) ⟨rfl, rfl⟩
    · (rw [Try.results68]; first | (simp only [go_sem, ↓reduceIte, Nat.reduceEqDiff, Nat.reduceBEq, Nat.reduceAdd, Nat.reduceLeDiff, Nat.reduceMul, Nat.reduceLT, Int.reduceToNat, reduceCtorEq, Int.reduceBEq, Int.reduceBNe, Int.reduceLT, Int.reduceLE, Int.reduceGT, Int.reduceGE, h5]; done) | (simp only [go_sem, ↓reduceIte, Nat.reduceEqDiff, Nat.reduceBEq, Nat.reduceAdd, Nat.reduceLeDiff, Nat.reduceMul, Nat.reduceLT, Int.reduceToNat, reduceCtorEq, Int.reduceBEq, Int.reduceBNe, Int.reduceLT, Int.reduceLE, Int.reduceGT, Int.reduceGE, h5]; rfl))

end Go.Proofs.Ytphfdbmbdaninaa.Ab
namespace Go.Proofs.Ytphfdbmbdaninaa.Ab
open Go Go.RowKit Go.Proofs
set_option linter.unusedSimpArgs false
set_option linter.unusedVariables false
attribute [local irreducible] Awp wpO thenQ blockQ bodyQ ACalls stepA

def parN (l : List Nd) (k : Nat) : Int := match l[k]? with
  | some a => a.par
  | none => -1

/-- the path of a node -/
def pth (l : List Nd) (k : Nat) : List Nat :=
  k :: (if h : 0 ≤ parN l k ∧ (parN l k).toNat < k then pth l (parN l k).toNat else [])
termination_by k
decreasing_by exact h.2

structure Tr (l : List Nd) : Prop where
  root : parN l 0 = -1
  up : ∀ k, 0 < k → k < l.length → 0 ≤ parN l k ∧ (parN l k).toNat < k

theorem pth_ne (l : List Nd) (k : Nat) : pth l k ≠ [] := by rw [pth]; simp
theorem pth_head (l : List Nd) (k : Nat) : (pth l k)[0]? = some k := by rw [pth]; rfl
theorem pth_self (l : List Nd) (k : Nat) : k ∈ pth l k := by rw [pth]; simp
theorem pth_pos {l : List Nd} (k : Nat) (h : 0 ≤ parN l k ∧ (parN l k).toNat < k) : pth l k = k :: pth l (parN l k).toNat := by
  rw [pth, dif_pos h]
theorem pth_zero {l : List Nd} (t : Tr l) : pth l 0 = [0] := by
  rw [pth, dif_neg (by rw [t.root]; omega)]

theorem pth_le (l : List Nd) (k : Nat) : ∀ i, i ∈ pth l k → i ≤ k := by
  induction k using Nat.strongRecOn with
  | _ k ih =>
    intro i hi
    by_cases h : 0 ≤ parN l k ∧ (parN l k).toNat < k
    · rw [pth_pos k h] at hi
      rcases List.mem_cons.1 hi with rfl | hi
      · exact Nat.le_refl _
      · have := ih _ h.2 i hi; omega
    · rw [pth, dif_neg h] at hi
      simp at hi; omega

theorem pth_root {l : List Nd} (t : Tr l) (k : Nat) : k < l.length → 0 ∈ pth l k := by
  induction k using Nat.strongRecOn with
  | _ k ih =>
    intro hk
    rcases Nat.eq_zero_or_pos k with rfl | h0
    · exact pth_self _ _
    · have h := t.up k h0 hk
      rw [pth_pos k h]
      exact List.mem_cons_of_mem _ (ih _ h.2 (by omega))

theorem pth_trans (l : List Nd) (k : Nat) : ∀ i j, i ∈ pth l k → j ∈ pth l i → j ∈ pth l k := by
  induction k using Nat.strongRecOn with
  | _ k ih =>
    intro i j hi hj
    by_cases h : 0 ≤ parN l k ∧ (parN l k).toNat < k
    · rw [pth_pos k h] at hi ⊢
      rcases List.mem_cons.1 hi with rfl | hi
      · rw [pth_pos i h] at hj; exact hj
      · exact List.mem_cons_of_mem _ (ih _ h.2 i j hi hj)
    · rw [pth, dif_neg h] at hi
      simp at hi; subst hi; exact hj

/-- of two nodes of a path one is on the path of the other -/
theorem pth_lin (l : List Nd) (k : Nat) : ∀ i j, i ∈ pth l k → j ∈ pth l k → j ≤ i → j ∈ pth l i := by
  induction k using Nat.strongRecOn with
  | _ k ih =>
    intro i j hi hj hji
    by_cases h : 0 ≤ parN l k ∧ (parN l k).toNat < k
    · rw [pth_pos k h] at hi
      rcases List.mem_cons.1 hi with rfl | hi
      · exact hj
      · rw [pth_pos k h] at hj
        rcases List.mem_cons.1 hj with rfl | hj
        · have := pth_le l _ _ hi; omega
        · exact ih _ h.2 i j hi hj hji
    · rw [pth, dif_neg h] at hi hj
      simp at hi hj; subst hi; subst hj; exact pth_self _ _

theorem pth_dec (l : List Nd) (k : Nat) : (pth l k).Pairwise (· > ·) := by
  induction k using Nat.strongRecOn with
  | _ k ih =>
    by_cases h : 0 ≤ parN l k ∧ (parN l k).toNat < k
    · rw [pth_pos k h]
      refine List.pairwise_cons.2 ⟨fun i hi => ?_, ih _ h.2⟩
      have := pth_le l _ _ hi; omega
    · rw [pth, dif_neg h]; simp

theorem pth_len (l : List Nd) (k : Nat) : (pth l k).length ≤ k + 1 := by
  induction k using Nat.strongRecOn with
  | _ k ih =>
    by_cases h : 0 ≤ parN l k ∧ (parN l k).toNat < k
    · rw [pth_pos k h]; have := ih _ h.2; simp; omega
    · rw [pth, dif_neg h]; simp

/-- the next node of a path is the parent -/
theorem pth_step (l : List Nd) (k : Nat) : ∀ j i, (pth l k)[j]? = some i → (pth l k)[j + 1]? = (if 0 ≤ parN l i ∧ (parN l i).toNat < i then some (parN l i).toNat else none) := by
  induction k using Nat.strongRecOn with
  | _ k ih =>
    intro j i hj
    by_cases h : 0 ≤ parN l k ∧ (parN l k).toNat < k
    · rw [pth_pos k h] at hj ⊢
      cases j with
      | zero => simp at hj; subst hj; rw [if_pos h]; simp [pth_head]
      | succ j => simp at hj ⊢; exact ih _ h.2 j i hj
    · rw [pth, dif_neg h] at hj ⊢
      cases j with
      | zero => simp at hj; subst hj; rw [if_neg h]; rfl
      | succ j => simp at hj

/-- the subtree of a node -/
def sub (l : List Nd) (k : Nat) : List Nat := (List.range l.length).filter fun i => decide (k ∈ pth l i)

theorem mem_sub {l : List Nd} {k i : Nat} : i ∈ sub l k ↔ i < l.length ∧ k ∈ pth l i := by simp [sub]
theorem sub_self {l : List Nd} {k : Nat} (h : k < l.length) : k ∈ sub l k := mem_sub.2 ⟨h, pth_self _ _⟩
theorem sub_zero {l : List Nd} (t : Tr l) : sub l 0 = List.range l.length := by
  unfold sub
  rw [List.filter_eq_self]
  intro i hi
  exact decide_eq_true (pth_root t i (by simpa using hi))
theorem sub_pair (l : List Nd) (k : Nat) : (sub l k).Pairwise (· < ·) := List.Pairwise.filter _ List.pairwise_lt_range

/-- the nodes that a node leads to -/
def chi (l : List Nd) (k : Nat) : List Nat := (List.range l.length).filter fun i => decide (k < i ∧ parN l i = k)
theorem mem_chi {l : List Nd} {k i : Nat} : i ∈ chi l k ↔ i < l.length ∧ k < i ∧ parN l i = k := by simp [chi]

/-- depth first -/
def pre (l : List Nd) : Nat → Nat → List Nat
  | 0, k => [k]
  | f + 1, k => k :: (chi l k).flatMap (pre l f)

theorem mem_pre {l : List Nd} (t : Tr l) : ∀ f k i, k < l.length → l.length ≤ f + k + 1 → (i ∈ pre l f k ↔ i ∈ sub l k)
  | 0, k, i, hk, hf => by
    simp only [pre, List.mem_singleton, mem_sub]
    constructor
    · rintro rfl; exact ⟨hk, pth_self _ _⟩
    · rintro ⟨h1, h2⟩; have := pth_le l i k h2; omega
  | f + 1, k, i, hk, hf => by
    simp only [pre, List.mem_cons, List.mem_flatMap]
    constructor
    · rintro (rfl | ⟨j, hj, hi⟩)
      · exact sub_self hk
      · obtain ⟨h1, h2, h3⟩ := mem_chi.1 hj
        have := (mem_pre t f j i h1 (by omega)).1 hi
        obtain ⟨h4, h5⟩ := mem_sub.1 this
        refine mem_sub.2 ⟨h4, pth_trans l i j k h5 ?_⟩
        rw [pth_pos j ⟨by omega, by omega⟩]
        refine List.mem_cons_of_mem _ ?_
        rw [h3]; exact pth_self _ _
    · intro hi
      obtain ⟨h1, h2⟩ := mem_sub.1 hi
      by_cases e : i = k
      · exact .inl e
      · right
        -- the node below k on the path of i
        have key : ∀ i, i < l.length → k ∈ pth l i → i ≠ k → ∃ j, j ∈ chi l k ∧ j ∈ pth l i := by
          intro i
          induction i using Nat.strongRecOn with
          | _ i ih =>
            intro hi h2 e
            have h0 := pth_le l i k h2
            have hu := t.up i (by omega) hi
            rw [pth_pos i hu] at h2 ⊢
            rcases List.mem_cons.1 h2 with h | h
            · exact absurd h.symm e
            · by_cases e2 : (parN l i).toNat = k
              · exact ⟨i, mem_chi.2 ⟨hi, by omega, by omega⟩, by simp⟩
              · obtain ⟨j, hj, hj2⟩ := ih _ hu.2 (by omega) h e2
                exact ⟨j, hj, List.mem_cons_of_mem _ hj2⟩
        obtain ⟨j, hj, hj2⟩ := key i h1 h2 e
        obtain ⟨q1, q2, q3⟩ := mem_chi.1 hj
        exact ⟨j, hj, (mem_pre t f j i q1 (by omega)).2 (mem_sub.2 ⟨h1, hj2⟩)⟩

theorem pre_nodup {l : List Nd} (t : Tr l) : ∀ f k, k < l.length → l.length ≤ f + k + 1 → (pre l f k).Nodup
  | 0, k, _, _ => by simp [pre]
  | f + 1, k, hk, hf => by
    simp only [pre]
    refine List.nodup_cons.2 ⟨fun h => ?_, ?_⟩
    · obtain ⟨j, hj, hi⟩ := List.mem_flatMap.1 h
      obtain ⟨h1, h2, h3⟩ := mem_chi.1 hj
      have := (mem_sub.1 ((mem_pre t f j k h1 (by omega)).1 hi)).2
      have := pth_le l k j this
      omega
    · unfold List.Nodup
      rw [List.pairwise_flatMap]
      refine ⟨fun j hj => ?_, ?_⟩
      · obtain ⟨h1, h2, h3⟩ := mem_chi.1 hj
        exact pre_nodup t f j h1 (by omega)
      · have hp : (chi l k).Pairwise (· < ·) := List.Pairwise.filter _ List.pairwise_lt_range
        refine List.Pairwise.imp_of_mem ?_ hp
        intro a b ha hb hab x hx y hy e
        subst e
        obtain ⟨a1, a2, a3⟩ := mem_chi.1 ha
        obtain ⟨b1, b2, b3⟩ := mem_chi.1 hb
        have xa := (mem_sub.1 ((mem_pre t f a x a1 (by omega)).1 hx)).2
        have xb := (mem_sub.1 ((mem_pre t f b x b1 (by omega)).1 hy)).2
        have := pth_lin l x b a xb xa (by omega)
        rw [pth_pos b ⟨by omega, by omega⟩] at this
        rcases List.mem_cons.1 this with h | h
        · omega
        · have := pth_le l _ _ h; rw [b3] at this; omega

theorem pre_perm {l : List Nd} (t : Tr l) {k : Nat} (hk : k < l.length) : (pre l l.length k).Perm (sub l k) := by
  rw [List.perm_ext_iff_of_nodup (pre_nodup t _ _ hk (by omega)) ((sub_pair l k).imp (fun h => by omega))]
  intro i; exact mem_pre t _ _ _ hk (by omega)

theorem good_tr {c : Cb} (h : c.good) : Tr c.l := by
  obtain ⟨h1, h20, hs, hn⟩ := h.h
  have key : ∀ k, k < c.l.length → headOk k (c.l[k]?.getD ⟨0,0,0,0,0,0,0,0⟩) ∧ parN c.l k = (c.l[k]?.getD ⟨0,0,0,0,0,0,0,0⟩).par := fun k hk => by
    obtain ⟨a, ha⟩ := nth hk
    rw [ha]
    exact ⟨(hn k a ha).1, by simp [parN, ha]⟩
  refine ⟨?_, fun k h0 hk => ?_⟩
  · obtain ⟨k1, k2⟩ := key 0 (by omega)
    rw [k2]
    unfold headOk at k1
    omega
  · obtain ⟨k1, k2⟩ := key k hk
    rw [k2]
    unfold headOk at k1
    omega

/-- what the box of a path's node holds -/
def pathV (l : List Nd) (k j : Nat) : Int := match (pth l k)[j]? with
  | some p => (p : Int)
  | none => -1

theorem pathV_at {l : List Nd} {k j p : Nat} (h : (pth l k)[j]? = some p) : pathV l k j = p := by unfold pathV; rw [h]
theorem pathV_end {l : List Nd} {k : Nat} : pathV l k (pth l k).length = -1 := by unfold pathV; rw [List.getElem?_eq_none (Nat.le_refl _)]
theorem pathV_zero {l : List Nd} {k : Nat} : pathV l k 0 = k := pathV_at (pth_head l k)
theorem pth_lt {l : List Nd} {k : Nat} (hk : k < l.length) {j p : Nat} (h : (pth l k)[j]? = some p) : p < l.length := by
  have := pth_le l k p (List.mem_of_getElem? h)
  omega
theorem pathV_next {c : Cb} (hg : c.good) {k : Nat} (hk : k < c.l.length) {j p : Nat} {a : Nd} (h : (pth c.l k)[j]? = some p) (ha : c.l[p]? = some a) : pathV c.l k (j + 1) = a.par := by
  have e : parN c.l p = a.par := by simp [parN, ha]
  have hs := pth_step c.l k j p h
  have t := good_tr hg
  unfold pathV
  rw [hs, e]
  rcases Nat.eq_zero_or_pos p with rfl | h0
  · have := t.root
    rw [e] at this
    rw [if_neg (by omega), this]
  · have := t.up p h0 (pth_lt hk h)
    rw [e] at this
    rw [if_pos (by omega)]
    show ((a.par.toNat : Nat) : Int) = a.par
    omega

end Go.Proofs.Ytphfdbmbdaninaa.Ab
namespace Go.Proofs.Ytphfdbmbdaninaa.Ab
open Go Go.RowKit Go.Proofs
set_option linter.unusedSimpArgs false
set_option linter.unusedVariables false
attribute [local irreducible] Awp wpO thenQ blockQ bodyQ ACalls stepA

theorem up_ok (H : Hp) (c : Cb) (k : Int) : CallsTo Try.prog 75 [treeV c, iv k] H (.fn (.func 111) [.mptr H.length 0 0, .rptr [treeV c] 0]) (H ++ [.cells [[iv k]] 3]) := by
  refine ACalls.of_body Try.func75 rfl (by kernel_rfl) (by rw [Try.ntmps75]; simp) ?_; rw [Try.ntmps75]
  unfold treeV
  repeat' (first | refine spD (fun _ => ?_) (fun _ => ?_) | refine spF (fun _ => ?_) (fun _ => ?_) | ((first | (apply stp0; (exact rfl); (exact rfl)) | (apply stpN0; (exact rfl))); (simp only [go_sem, ↓reduceIte, Nat.reduceEqDiff, Nat.reduceBEq, Nat.reduceAdd, Nat.reduceLeDiff, Nat.reduceMul, Nat.reduceLT, Int.reduceToNat, reduceCtorEq, Int.reduceBEq, Int.reduceBNe, Int.reduceLT, Int.reduceLE, Int.reduceGT, Int.reduceGE]; rfl); (first | exact okT | exact okN | exact okE rfl)) | (apply gT; (exact rfl)) | (apply off; (exact rfl); (exact rfl)) | refine thenQ_n ?_ | refine thenQ_r ?_ | refine thenQ_e ?_ | refine blockQ_n ?_ | refine blockQ_r ?_ | refine blockQ_e ?_ | (apply blockQ_o; (exact rfl)) | refine Awp.seq ?_ | refine Awp.skip ?_ | refine Awp.block ?_ | refine reg (fun s => s == 3) ?_ | (apply drwE mixed (fun s => s == 3); (kernel_rfl)) | refine fin ?_ | (apply condT; (exact rfl)) | (apply condF; (exact rfl)) | refine Awp.ret ?_ | refine Awp.exit ?_ | ((first | apply bodyQ_d0 | apply bodyQ_d1 | apply bodyQ_d2 | apply bodyQ_d3 | apply bodyQ_d4); (exact .inr rfl); (rw [Try.results75]; simp only [go_sem, ↓reduceIte, Nat.reduceEqDiff, Nat.reduceBEq, Nat.reduceAdd, Nat.reduceLeDiff, Nat.reduceMul, Nat.reduceLT, Int.reduceToNat, reduceCtorEq, Int.reduceBEq, Int.reduceBNe, Int.reduceLT, Int.reduceLE, Int.reduceGT, Int.reduceGE]; rfl); (first | (show Bel _ _; (focus first | exact .val _ | (simp [oneOf, Bel_iff_tup, Bel_iff_agg, Bel_iff_rsl, Bel_iff_fn, Bel_iff_rptr, Bel_val]; done))) | (fail_if_success (show Bel _ _)))) | ((first | apply gT | apply condT); (first | (focus (simp only [go_sem, ↓reduceIte, Nat.reduceEqDiff, Nat.reduceBEq, Nat.reduceAdd, Nat.reduceLeDiff, Nat.reduceMul, Nat.reduceLT, Int.reduceToNat, reduceCtorEq, Int.reduceBEq, Int.reduceBNe, Int.reduceLT, Int.reduceLE, Int.reduceGT, Int.reduceGE] <;> rfl)) | exact rfl)) | ((first | (apply off; (exact rfl)) | apply condF); (first | (focus (simp only [go_sem, ↓reduceIte, Nat.reduceEqDiff, Nat.reduceBEq, Nat.reduceAdd, Nat.reduceLeDiff, Nat.reduceMul, Nat.reduceLT, Int.reduceToNat, reduceCtorEq, Int.reduceBEq, Int.reduceBNe, Int.reduceLT, Int.reduceLE, Int.reduceGT, Int.reduceGE] <;> rfl)) | exact rfl)))
  exact bodyQ_eq (.inr rfl) (by rw [Try.results75]; simp only [go_sem, ↓reduceIte, Nat.reduceEqDiff, Nat.reduceBEq, Nat.reduceAdd, Nat.reduceLeDiff, Nat.reduceMul, Nat.reduceLT, Int.reduceToNat, reduceCtorEq, Int.reduceBEq, Int.reduceBNe, Int.reduceLT, Int.reduceLE, Int.reduceGT, Int.reduceGE]; rfl) ⟨rfl, rfl⟩

theorem upLoop (c : Cb) (hg : c.good) {k0 : Nat} (hk0 : k0 < c.l.length) (b0 b : Nat) (I : Nat → Hp → Prop) (Stop : Hp → Prop) (hI : ∀ j H, I j H → H[b0]? = some (.cells [[iv (pathV c.l k0 j)]] 3))
    (hy : ∀ (j p : Nat) (H : Hp), (pth c.l k0)[j]? = some p → I j H → AYield Try.prog b [iv p] H (fun v1 H1 => (v1 = bv true ∧ H1[b0]? = some (.cells [[iv p]] 3) ∧ I (j + 1) (H1.set b0 (.cells [[iv (pathV c.l k0 (j + 1))]] 3))) ∨ (v1 = bv false ∧ Stop H1)))
    (H : Hp) (h0 : I 0 H) : ACalls Try.prog 111 [.fn (.yield b) [], .mptr b0 0 0, .rptr [treeV c] 0] H fun _ H' => I (pth c.l k0).length H' ∨ Stop H' := by
  refine ACalls.of_body Try.func111 rfl (by kernel_rfl) (by rw [Try.ntmps111]; simp) ?_; rw [Try.ntmps111]
  refine Awp.block ?_
  refine Awp.loop (ι := Nat) (fun i T' H' => i ≤ (pth c.l k0).length ∧ T' 0 = .fn (.yield b) [] ∧ T' 1 = .mptr b0 0 0 ∧ T' 2 = .rptr [treeV c] 0 ∧ I i H') (fun i => (pth c.l k0).length - i) 0 ?_ ?_
  · refine ⟨by omega, ?_, ?_, ?_, h0⟩
    · rfl
    · rfl
    · rfl
  rintro i T H' ⟨hi, h0', h1, h2, hinv⟩
  have hbx := hI i H' hinv
  by_cases hlt : i < (pth c.l k0).length
  · obtain ⟨p, hp⟩ := nth hlt
    have hpn := pth_lt hk0 hp
    obtain ⟨a, ha⟩ := nth hpn
    have hac := nthMap Nd.cs ha
    simp only [Nd.cs] at hac
    rw [pathV_at hp] at hbx
    have hge : (0 : Int) ≤ (p : Int) := by omega
    have hcall := hy i p H' hp hinv
    rw [pathV_next hg hk0 hp ha] at hcall
    simp only [treeV, Cb.cs, List.cons_append, List.nil_append] at h2
    repeat' (first | refine spD (fun _ => ?_) (fun _ => ?_) | refine spF (fun _ => ?_) (fun _ => ?_) | ((first | (apply stp0; (exact rfl); (exact rfl)) | (apply stpN0; (exact rfl))); (simp only [go_sem, ↓reduceIte, Nat.reduceEqDiff, Nat.reduceBEq, Nat.reduceAdd, Nat.reduceLeDiff, Nat.reduceMul, Nat.reduceLT, Int.reduceToNat, reduceCtorEq, Int.reduceBEq, Int.reduceBNe, Int.reduceLT, Int.reduceLE, Int.reduceGT, Int.reduceGE, h0', h1, h2, hbx, hge, hac]; rfl); (first | exact okT | exact okN | exact okE rfl)) | (apply gT; (exact rfl)) | (apply off; (exact rfl); (exact rfl)) | refine thenQ_n ?_ | refine thenQ_r ?_ | refine thenQ_e ?_ | refine blockQ_n ?_ | refine blockQ_r ?_ | refine blockQ_e ?_ | (apply blockQ_o; (exact rfl)) | refine Awp.seq ?_ | refine Awp.skip ?_ | refine Awp.block ?_ | refine reg (fun s => false) ?_ | (apply drwE mixed (fun s => false); (kernel_rfl)) | refine fin ?_ | (apply condT; (exact rfl)) | (apply condF; (exact rfl)) | refine Awp.ret ?_ | refine Awp.exit ?_ | ((first | apply bodyQ_d0 | apply bodyQ_d1 | apply bodyQ_d2 | apply bodyQ_d3 | apply bodyQ_d4); (exact .inr rfl); (rw [Try.results111]; simp only [go_sem, ↓reduceIte, Nat.reduceEqDiff, Nat.reduceBEq, Nat.reduceAdd, Nat.reduceLeDiff, Nat.reduceMul, Nat.reduceLT, Int.reduceToNat, reduceCtorEq, Int.reduceBEq, Int.reduceBNe, Int.reduceLT, Int.reduceLE, Int.reduceGT, Int.reduceGE, h0', h1, h2, hbx, hge, hac]; rfl); (first | (show Bel _ _; (focus first | exact .val _ | (simp [oneOf, Bel_iff_tup, Bel_iff_agg, Bel_iff_rsl, Bel_iff_fn, Bel_iff_rptr, Bel_val]; done))) | (fail_if_success (show Bel _ _)))) | ((first | apply gT | apply condT); (first | (focus (simp only [go_sem, ↓reduceIte, Nat.reduceEqDiff, Nat.reduceBEq, Nat.reduceAdd, Nat.reduceLeDiff, Nat.reduceMul, Nat.reduceLT, Int.reduceToNat, reduceCtorEq, Int.reduceBEq, Int.reduceBNe, Int.reduceLT, Int.reduceLE, Int.reduceGT, Int.reduceGE, h0', h1, h2, hbx, hge, hac] <;> rfl)) | exact rfl)) | ((first | (apply off; (exact rfl)) | apply condF); (first | (focus (simp only [go_sem, ↓reduceIte, Nat.reduceEqDiff, Nat.reduceBEq, Nat.reduceAdd, Nat.reduceLeDiff, Nat.reduceMul, Nat.reduceLT, Int.reduceToNat, reduceCtorEq, Int.reduceBEq, Int.reduceBNe, Int.reduceLT, Int.reduceLE, Int.reduceGT, Int.reduceGE, h0', h1, h2, hbx, hge, hac] <;> rfl)) | exact rfl)))
    refine cal rfl rfl ?_ ?_ (show ACallV Try.prog (.fn (.yield b) []) [iv p] H' _ from hcall) ?_
    · (first | (focus (simp only [go_sem, ↓reduceIte, Nat.reduceEqDiff, Nat.reduceBEq, Nat.reduceAdd, Nat.reduceLeDiff, Nat.reduceMul, Nat.reduceLT, Int.reduceToNat, reduceCtorEq, Int.reduceBEq, Int.reduceBNe, Int.reduceLT, Int.reduceLE, Int.reduceGT, Int.reduceGE, h0']; done)) | (focus (simp only [go_sem, ↓reduceIte, Nat.reduceEqDiff, Nat.reduceBEq, Nat.reduceAdd, Nat.reduceLeDiff, Nat.reduceMul, Nat.reduceLT, Int.reduceToNat, reduceCtorEq, Int.reduceBEq, Int.reduceBNe, Int.reduceLT, Int.reduceLE, Int.reduceGT, Int.reduceGE, h0']; rfl)) | rfl)
    · (first | (focus (simp only [go_sem, ↓reduceIte, Nat.reduceEqDiff, Nat.reduceBEq, Nat.reduceAdd, Nat.reduceLeDiff, Nat.reduceMul, Nat.reduceLT, Int.reduceToNat, reduceCtorEq, Int.reduceBEq, Int.reduceBNe, Int.reduceLT, Int.reduceLE, Int.reduceGT, Int.reduceGE, hbx]; done)) | (focus (simp only [go_sem, ↓reduceIte, Nat.reduceEqDiff, Nat.reduceBEq, Nat.reduceAdd, Nat.reduceLeDiff, Nat.reduceMul, Nat.reduceLT, Int.reduceToNat, reduceCtorEq, Int.reduceBEq, Int.reduceBNe, Int.reduceLT, Int.reduceLE, Int.reduceGT, Int.reduceGE, hbx]; rfl)) | rfl)
    rintro v1 H2 (⟨rfl, hb2, hnext⟩ | ⟨rfl, hstop⟩)
    · repeat' (first | refine spD (fun _ => ?_) (fun _ => ?_) | refine spF (fun _ => ?_) (fun _ => ?_) | ((first | (apply stp0; (exact rfl); (exact rfl)) | (apply stpN0; (exact rfl))); (simp only [go_sem, ↓reduceIte, Nat.reduceEqDiff, Nat.reduceBEq, Nat.reduceAdd, Nat.reduceLeDiff, Nat.reduceMul, Nat.reduceLT, Int.reduceToNat, reduceCtorEq, Int.reduceBEq, Int.reduceBNe, Int.reduceLT, Int.reduceLE, Int.reduceGT, Int.reduceGE, h0', h1, h2, hbx, hge, hac, hb2]; rfl); (first | exact okT | exact okN | exact okE rfl)) | (apply gT; (exact rfl)) | (apply off; (exact rfl); (exact rfl)) | refine thenQ_n ?_ | refine thenQ_r ?_ | refine thenQ_e ?_ | refine blockQ_n ?_ | refine blockQ_r ?_ | refine blockQ_e ?_ | (apply blockQ_o; (exact rfl)) | refine Awp.seq ?_ | refine Awp.skip ?_ | refine Awp.block ?_ | refine reg (fun s => false) ?_ | (apply drwE mixed (fun s => false); (kernel_rfl)) | refine fin ?_ | (apply condT; (exact rfl)) | (apply condF; (exact rfl)) | refine Awp.ret ?_ | refine Awp.exit ?_ | ((first | apply bodyQ_d0 | apply bodyQ_d1 | apply bodyQ_d2 | apply bodyQ_d3 | apply bodyQ_d4); (exact .inr rfl); (rw [Try.results111]; simp only [go_sem, ↓reduceIte, Nat.reduceEqDiff, Nat.reduceBEq, Nat.reduceAdd, Nat.reduceLeDiff, Nat.reduceMul, Nat.reduceLT, Int.reduceToNat, reduceCtorEq, Int.reduceBEq, Int.reduceBNe, Int.reduceLT, Int.reduceLE, Int.reduceGT, Int.reduceGE, h0', h1, h2, hbx, hge, hac, hb2]; rfl); (first | (show Bel _ _; (focus first | exact .val _ | (simp [oneOf, Bel_iff_tup, Bel_iff_agg, Bel_iff_rsl, Bel_iff_fn, Bel_iff_rptr, Bel_val]; done))) | (fail_if_success (show Bel _ _)))) | ((first | apply gT | apply condT); (first | (focus (simp only [go_sem, ↓reduceIte, Nat.reduceEqDiff, Nat.reduceBEq, Nat.reduceAdd, Nat.reduceLeDiff, Nat.reduceMul, Nat.reduceLT, Int.reduceToNat, reduceCtorEq, Int.reduceBEq, Int.reduceBNe, Int.reduceLT, Int.reduceLE, Int.reduceGT, Int.reduceGE, h0', h1, h2, hbx, hge, hac, hb2] <;> rfl)) | exact rfl)) | ((first | (apply off; (exact rfl)) | apply condF); (first | (focus (simp only [go_sem, ↓reduceIte, Nat.reduceEqDiff, Nat.reduceBEq, Nat.reduceAdd, Nat.reduceLeDiff, Nat.reduceMul, Nat.reduceLT, Int.reduceToNat, reduceCtorEq, Int.reduceBEq, Int.reduceBNe, Int.reduceLT, Int.reduceLE, Int.reduceGT, Int.reduceGE, h0', h1, h2, hbx, hge, hac, hb2] <;> rfl)) | exact rfl)))
      refine ⟨i + 1, ⟨by omega, ?_, ?_, ?_, hnext⟩, by omega⟩
      · (first | (focus (simp only [go_sem, ↓reduceIte, Nat.reduceEqDiff, Nat.reduceBEq, Nat.reduceAdd, Nat.reduceLeDiff, Nat.reduceMul, Nat.reduceLT, Int.reduceToNat, reduceCtorEq, Int.reduceBEq, Int.reduceBNe, Int.reduceLT, Int.reduceLE, Int.reduceGT, Int.reduceGE, h0']; done)) | (focus (simp only [go_sem, ↓reduceIte, Nat.reduceEqDiff, Nat.reduceBEq, Nat.reduceAdd, Nat.reduceLeDiff, Nat.reduceMul, Nat.reduceLT, Int.reduceToNat, reduceCtorEq, Int.reduceBEq, Int.reduceBNe, Int.reduceLT, Int.reduceLE, Int.reduceGT, Int.reduceGE, h0']; rfl)) | rfl)
      · (first | (focus (simp only [go_sem, ↓reduceIte, Nat.reduceEqDiff, Nat.reduceBEq, Nat.reduceAdd, Nat.reduceLeDiff, Nat.reduceMul, Nat.reduceLT, Int.reduceToNat, reduceCtorEq, Int.reduceBEq, Int.reduceBNe, Int.reduceLT, Int.reduceLE, Int.reduceGT, Int.reduceGE, h1]; done)) | (focus (simp only [go_sem, ↓reduceIte, Nat.reduceEqDiff, Nat.reduceBEq, Nat.reduceAdd, Nat.reduceLeDiff, Nat.reduceMul, Nat.reduceLT, Int.reduceToNat, reduceCtorEq, Int.reduceBEq, Int.reduceBNe, Int.reduceLT, Int.reduceLE, Int.reduceGT, Int.reduceGE, h1]; rfl)) | rfl)
      · (first | (focus (simp only [go_sem, ↓reduceIte, Nat.reduceEqDiff, Nat.reduceBEq, Nat.reduceAdd, Nat.reduceLeDiff, Nat.reduceMul, Nat.reduceLT, Int.reduceToNat, reduceCtorEq, Int.reduceBEq, Int.reduceBNe, Int.reduceLT, Int.reduceLE, Int.reduceGT, Int.reduceGE, h2, treeV, Cb.cs, List.cons_append, List.nil_append]; done)) | (focus (simp only [go_sem, ↓reduceIte, Nat.reduceEqDiff, Nat.reduceBEq, Nat.reduceAdd, Nat.reduceLeDiff, Nat.reduceMul, Nat.reduceLT, Int.reduceToNat, reduceCtorEq, Int.reduceBEq, Int.reduceBNe, Int.reduceLT, Int.reduceLE, Int.reduceGT, Int.reduceGE, h2, treeV, Cb.cs, List.cons_append, List.nil_append]; rfl)) | rfl)
    · repeat' (first | refine spD (fun _ => ?_) (fun _ => ?_) | refine spF (fun _ => ?_) (fun _ => ?_) | ((first | (apply stp0; (exact rfl); (exact rfl)) | (apply stpN0; (exact rfl))); (simp only [go_sem, ↓reduceIte, Nat.reduceEqDiff, Nat.reduceBEq, Nat.reduceAdd, Nat.reduceLeDiff, Nat.reduceMul, Nat.reduceLT, Int.reduceToNat, reduceCtorEq, Int.reduceBEq, Int.reduceBNe, Int.reduceLT, Int.reduceLE, Int.reduceGT, Int.reduceGE, h0', h1, h2, hbx, hge, hac]; rfl); (first | exact okT | exact okN | exact okE rfl)) | (apply gT; (exact rfl)) | (apply off; (exact rfl); (exact rfl)) | refine thenQ_n ?_ | refine thenQ_r ?_ | refine thenQ_e ?_ | refine blockQ_n ?_ | refine blockQ_r ?_ | refine blockQ_e ?_ | (apply blockQ_o; (exact rfl)) | refine Awp.seq ?_ | refine Awp.skip ?_ | refine Awp.block ?_ | refine reg (fun s => false) ?_ | (apply drwE mixed (fun s => false); (kernel_rfl)) | refine fin ?_ | (apply condT; (exact rfl)) | (apply condF; (exact rfl)) | refine Awp.ret ?_ | refine Awp.exit ?_ | ((first | apply bodyQ_d0 | apply bodyQ_d1 | apply bodyQ_d2 | apply bodyQ_d3 | apply bodyQ_d4); (exact .inr rfl); (rw [Try.results111]; simp only [go_sem, ↓reduceIte, Nat.reduceEqDiff, Nat.reduceBEq, Nat.reduceAdd, Nat.reduceLeDiff, Nat.reduceMul, Nat.reduceLT, Int.reduceToNat, reduceCtorEq, Int.reduceBEq, Int.reduceBNe, Int.reduceLT, Int.reduceLE, Int.reduceGT, Int.reduceGE, h0', h1, h2, hbx, hge, hac]; rfl); (first | (show Bel _ _; (focus first | exact .val _ | (simp [oneOf, Bel_iff_tup, Bel_iff_agg, Bel_iff_rsl, Bel_iff_fn, Bel_iff_rptr, Bel_val]; done))) | (fail_if_success (show Bel _ _)))) | ((first | apply gT | apply condT); (first | (focus (simp only [go_sem, ↓reduceIte, Nat.reduceEqDiff, Nat.reduceBEq, Nat.reduceAdd, Nat.reduceLeDiff, Nat.reduceMul, Nat.reduceLT, Int.reduceToNat, reduceCtorEq, Int.reduceBEq, Int.reduceBNe, Int.reduceLT, Int.reduceLE, Int.reduceGT, Int.reduceGE, h0', h1, h2, hbx, hge, hac] <;> rfl)) | exact rfl)) | ((first | (apply off; (exact rfl)) | apply condF); (first | (focus (simp only [go_sem, ↓reduceIte, Nat.reduceEqDiff, Nat.reduceBEq, Nat.reduceAdd, Nat.reduceLeDiff, Nat.reduceMul, Nat.reduceLT, Int.reduceToNat, reduceCtorEq, Int.reduceBEq, Int.reduceBNe, Int.reduceLT, Int.reduceLE, Int.reduceGT, Int.reduceGE, h0', h1, h2, hbx, hge, hac] <;> rfl)) | exact rfl)))
      exact bodyQ_eq (.inl rfl) (by rw [Try.results111]; simp only [go_sem, ↓reduceIte, Nat.reduceEqDiff, Nat.reduceBEq, Nat.reduceAdd, Nat.reduceLeDiff, Nat.reduceMul, Nat.reduceLT, Int.reduceToNat, reduceCtorEq, Int.reduceBEq, Int.reduceBNe, Int.reduceLT, Int.reduceLE, Int.reduceGT, Int.reduceGE]; rfl) (.inr hstop)
  · have hil : i = (pth c.l k0).length := by omega
    subst hil
    rw [pathV_end] at hbx
    repeat' (first | refine spD (fun _ => ?_) (fun _ => ?_) | refine spF (fun _ => ?_) (fun _ => ?_) | ((first | (apply stp0; (exact rfl); (exact rfl)) | (apply stpN0; (exact rfl))); (simp only [go_sem, ↓reduceIte, Nat.reduceEqDiff, Nat.reduceBEq, Nat.reduceAdd, Nat.reduceLeDiff, Nat.reduceMul, Nat.reduceLT, Int.reduceToNat, reduceCtorEq, Int.reduceBEq, Int.reduceBNe, Int.reduceLT, Int.reduceLE, Int.reduceGT, Int.reduceGE, h0', h1, h2, hbx]; rfl); (first | exact okT | exact okN | exact okE rfl)) | (apply gT; (exact rfl)) | (apply off; (exact rfl); (exact rfl)) | refine thenQ_n ?_ | refine thenQ_r ?_ | refine thenQ_e ?_ | refine blockQ_n ?_ | refine blockQ_r ?_ | refine blockQ_e ?_ | (apply blockQ_o; (exact rfl)) | refine Awp.seq ?_ | refine Awp.skip ?_ | refine Awp.block ?_ | refine reg (fun s => false) ?_ | (apply drwE mixed (fun s => false); (kernel_rfl)) | refine fin ?_ | (apply condT; (exact rfl)) | (apply condF; (exact rfl)) | refine Awp.ret ?_ | refine Awp.exit ?_ | ((first | apply bodyQ_d0 | apply bodyQ_d1 | apply bodyQ_d2 | apply bodyQ_d3 | apply bodyQ_d4); (exact .inr rfl); (rw [Try.results111]; simp only [go_sem, ↓reduceIte, Nat.reduceEqDiff, Nat.reduceBEq, Nat.reduceAdd, Nat.reduceLeDiff, Nat.reduceMul, Nat.reduceLT, Int.reduceToNat, reduceCtorEq, Int.reduceBEq, Int.reduceBNe, Int.reduceLT, Int.reduceLE, Int.reduceGT, Int.reduceGE, h0', h1, h2, hbx]; rfl); (first | (show Bel _ _; (focus first | exact .val _ | (simp [oneOf, Bel_iff_tup, Bel_iff_agg, Bel_iff_rsl, Bel_iff_fn, Bel_iff_rptr, Bel_val]; done))) | (fail_if_success (show Bel _ _)))) | ((first | apply gT | apply condT); (first | (focus (simp only [go_sem, ↓reduceIte, Nat.reduceEqDiff, Nat.reduceBEq, Nat.reduceAdd, Nat.reduceLeDiff, Nat.reduceMul, Nat.reduceLT, Int.reduceToNat, reduceCtorEq, Int.reduceBEq, Int.reduceBNe, Int.reduceLT, Int.reduceLE, Int.reduceGT, Int.reduceGE, h0', h1, h2, hbx] <;> rfl)) | exact rfl)) | ((first | (apply off; (exact rfl)) | apply condF); (first | (focus (simp only [go_sem, ↓reduceIte, Nat.reduceEqDiff, Nat.reduceBEq, Nat.reduceAdd, Nat.reduceLeDiff, Nat.reduceMul, Nat.reduceLT, Int.reduceToNat, reduceCtorEq, Int.reduceBEq, Int.reduceBNe, Int.reduceLT, Int.reduceLE, Int.reduceGT, Int.reduceGE, h0', h1, h2, hbx] <;> rfl)) | exact rfl)))
    exact bodyQ_eq (.inl rfl) (by rw [Try.results111]; simp only [go_sem, ↓reduceIte, Nat.reduceEqDiff, Nat.reduceBEq, Nat.reduceAdd, Nat.reduceLeDiff, Nat.reduceMul, Nat.reduceLT, Int.reduceToNat, reduceCtorEq, Int.reduceBEq, Int.reduceBNe, Int.reduceLT, Int.reduceLE, Int.reduceGT, Int.reduceGE]; rfl) (.inl hinv)

theorem get_snd (L : Hp) (x y : AObj) (Z : Hp) : (L ++ [x] ++ [y] ++ Z)[L.length + 1]? = some y := by simp
theorem get_snd0 (L : Hp) (x y : AObj) : (L ++ [x] ++ [y])[L.length + 1]? = some y := by simp
theorem get_trd (L : Hp) (x y z : AObj) : (L ++ [x] ++ [y] ++ [z])[L.length + 2]? = some z := by simp
theorem set_snd0 (L : Hp) (x y c : AObj) : (L ++ [x] ++ [y]).set (L.length + 1) c = L ++ [x] ++ [c] := by simp
theorem set_snd (L : Hp) (x y c : AObj) (Z : Hp) : (L ++ [x] ++ [y] ++ Z).set (L.length + 1) c = L ++ [x] ++ [c] ++ Z := by simp

/-- the same length, and what is new leads to nothing -/
structure Lk (A B : Hp) : Prop where
  len : B.length = A.length
  bel : ∀ (b : Nat) (ob : AObj), B[b]? = some ob → A[b]? = some ob ∨ ∀ m, BelO m ob

theorem Lk.refl (A : Hp) : Lk A A := ⟨rfl, fun _ _ h => .inl h⟩
theorem Lk.set {A B : Hp} (h : Lk A B) {b : Nat} {ob : AObj} (hb : ∀ m, BelO m ob) : Lk A (B.set b ob) := by
  refine ⟨by simpa using h.len, fun b' ob' hb' => ?_⟩
  rw [List.getElem?_set] at hb'
  split at hb'
  · split at hb'
    · cases hb'; exact .inr hb
    · cases hb'
  · exact h.bel b' ob' hb'
theorem Lk.trans {A B C : Hp} (h : Lk A B) (k : Lk B C) : Lk A C :=
  ⟨k.len.trans h.len, fun b ob hb => (k.bel b ob hb).elim (h.bel b ob) .inr⟩

theorem BelO_plain {es : List (List AV)} {t : TypeId} (h : ∀ e ∈ es, ∀ a ∈ e, ∃ v, a = .val v) (m : Nat) : BelO m (.cells es t) :=
  .cells fun e he a ha => by obtain ⟨v, rfl⟩ := h e he a ha; exact .val v

theorem bel_mid {A B : Hp} {x y y' : AObj} (hL : Lk A B) (hy0 : y ≠ .dead) (hy : ∀ m, BelO m y → BelO m y') (hbel : ∀ (b : Nat) (ob : AObj), (A ++ [x] ++ [y])[b]? = some ob → ob ≠ .dead → BelO (A ++ [x] ++ [y]).length ob) :
    ∀ (b : Nat) (ob : AObj), (B ++ [x] ++ [y'])[b]? = some ob → ob ≠ .dead → BelO (B ++ [x] ++ [y']).length ob := by
  intro b ob hb hn
  have hlen : (B ++ [x] ++ [y']).length = (A ++ [x] ++ [y]).length := by simp [hL.len]
  rw [hlen]
  rcases Nat.lt_trichotomy b B.length with h | h | h
  · rw [List.append_assoc, List.getElem?_append_left h] at hb
    rcases hL.bel b ob hb with h1 | h1
    · refine hbel b ob ?_ hn
      rw [List.append_assoc, List.getElem?_append_left (by rw [← hL.len]; exact h)]
      exact h1
    · exact h1 _
  · subst h
    refine hbel B.length ob ?_ hn
    rw [get_new2] at hb
    rw [hL.len, get_new2]; exact hb
  · have := (List.getElem?_eq_some_iff.1 hb).1
    simp at this
    have e : b = B.length + 1 := by omega
    subst e
    rw [get_snd0] at hb
    cases hb
    exact hy _ (hbel (B.length + 1) y (by rw [hL.len]; exact get_snd0 ..) hy0)

theorem bel_lp {m : Nat} {st st' : LoopState} {pend pend' : Option Code} {f : FuncId} {T : Env} {n : Nat} {ps : Array Tmp} {assign body : Code} {D : Nat} (h : BelO m (.loop st pend f T n ps assign body D)) : BelO m (.loop st' pend' f T n ps assign body D) := by
  cases h with
  | loop h => exact .loop h

def bxO (v : Int) : AObj := .cells [[iv v]] 3

/-- how a round ends -/
def roundE (A : Hp) (p : Nat) (lp : LoopState → AObj) (Nx Rq : Hp → Prop) (Eq : Nat → Hp → Prop) : Exit → Env → Hp → Prop := fun e _ H2 =>
  ∃ B X, H2 = B ++ [bxO p] ++ [lp .busy] ++ X ∧ Lk A B ∧ match e with
    | .normal => Nx B
    | .ret => Rq B
    | .exit id => Eq id B
    | _ => False

theorem roundE_n {A B X : Hp} {p : Nat} {lp : LoopState → AObj} {Nx Rq : Hp → Prop} {Eq : Nat → Hp → Prop} {T : Env} (hL : Lk A B) (h : Nx B) : roundE A p lp Nx Rq Eq .normal T (B ++ [bxO p] ++ [lp .busy] ++ X) := ⟨B, X, rfl, hL, h⟩
theorem roundE_r {A B X : Hp} {p : Nat} {lp : LoopState → AObj} {Nx Rq : Hp → Prop} {Eq : Nat → Hp → Prop} {T : Env} (hL : Lk A B) (h : Rq B) : roundE A p lp Nx Rq Eq .ret T (B ++ [bxO p] ++ [lp .busy] ++ X) := ⟨B, X, rfl, hL, h⟩
theorem roundE_e {A B X : Hp} {p id : Nat} {lp : LoopState → AObj} {Nx Rq : Hp → Prop} {Eq : Nat → Hp → Prop} {T : Env} (hL : Lk A B) (h : Eq id B) : roundE A p lp Nx Rq Eq (.exit id) T (B ++ [bxO p] ++ [lp .busy] ++ X) := ⟨B, X, rfl, hL, h⟩

/-- for i := range t.up(k) -/
theorem overUp {n : Nat} {T : Env} {Q : Exit → Env → Hp → Prop} {gop : Operand} {x : Nat} {assign body : Code} {A : Hp} (c : Cb) (hg : c.good) {k0 : Nat} (hk0 : k0 < c.l.length)
    (hT : evA T gop = .fn (.func 111) [.mptr A.length 0 0, .rptr [treeV c] 0]) (hx : x < n) (I : Nat → Hp → Prop) (Rq : Hp → Prop) (Eq : Nat → Hp → Prop) (hl : ∀ j B, I j B → B.length = A.length) (h0 : I 0 A)
    (hb : ∀ (lp : LoopState → AObj) (j p : Nat) (B : Hp), (pth c.l k0)[j]? = some p → I j B →
      Awp Try.prog n (some (A.length + 1)) assign (upd T x (iv p)) (B ++ [bxO p] ++ [lp .ready]) (fun e T1 H1 => e = .normal ∧ ∃ Z, H1 = B ++ [bxO p] ++ [lp .ready] ++ Z ∧
        Awp Try.prog n (some (A.length + 1)) body T1 (B ++ [bxO p] ++ [lp .busy] ++ Z) (roundE B p lp (I (j + 1)) Rq Eq)))
    (hn : ∀ B, I (pth c.l k0).length B → Q .normal T (B ++ [bxO (-1)] ++ [.dead]))
    (hr : ∀ B p, B.length = A.length → Rq B → Q .ret T (B ++ [bxO p] ++ [.dead]))
    (he : ∀ id B p, B.length = A.length → Eq id B → Q (.exit id) T (B ++ [bxO p] ++ [.dead])) :
    Awp Try.prog n none (.rangeFunc gop #[x] assign body) T (A ++ [bxO k0]) Q := by
  refine Awp.range (k := 111) (cap := [.mptr A.length 0 0, .rptr [treeV c] 0]) hT fun fid D => ?_
  have hAl : (A ++ [bxO (k0 : Int)]).length = A.length + 1 := by simp
  rw [hAl]
  let lp : LoopState → AObj := fun st => .loop st none fid T n #[x] assign body D
  refine ACalls.mono (upLoop c hg hk0 A.length (A.length + 1) (fun j H' => ∃ B, I j B ∧ H' = B ++ [bxO (pathV c.l k0 j)] ++ [lp .ready])
    (fun H' => ∃ B p, B.length = A.length ∧ ((Rq B ∧ H' = B ++ [bxO p] ++ [.loop .done (some .ret) fid T n #[x] assign body D]) ∨ ∃ id, Eq id B ∧ H' = B ++ [bxO p] ++ [.loop .done (some (.exit id)) fid T n #[x] assign body D])) ?_ ?_ _ ?_) ?_
  · rintro j H' ⟨B, hI, rfl⟩
    rw [← hl j B hI]
    exact get_new2 ..
  · rintro j p H' hp ⟨B, hI, rfl⟩
    have hB := hl j B hI
    rw [pathV_at hp]
    have hlp : (B ++ [bxO (p : Int)] ++ [lp .ready])[A.length + 1]? = some (lp .ready) := by rw [← hB]; exact get_snd0 ..
    -- what a round comes to
    have hround : Awp Try.prog n (some (A.length + 1)) assign (setPs T ((#[x] : Array Tmp).toList.zip [iv p])) (B ++ [bxO p] ++ [lp .ready]) (fun e T1 H1 => e = .normal ∧ ∃ Z, H1 = B ++ [bxO p] ++ [lp .ready] ++ Z ∧
        Awp Try.prog n (some (A.length + 1)) body T1 (B ++ [bxO p] ++ [lp .busy] ++ Z) (roundE B p lp (I (j + 1)) Rq Eq)) := hb lp j p B hp hI
    have hpos : ∀ (B' : Hp) (y : AObj), B'.length = A.length → (B' ++ [bxO (p : Int)] ++ [y])[A.length]? = some (bxO p) := fun B' y h => by rw [← h]; exact get_new2 ..
    refine AYield.mono (AYield.of_body hlp rfl (by simpa using hx) (Post := fun v1 H1 => (v1 = bv true ∧ ∃ B', I (j + 1) B' ∧ H1 = B' ++ [bxO (p : Int)] ++ [lp .ready]) ∨ (v1 = bv false ∧ ∃ B' : Hp, B'.length = A.length ∧ ((Rq B' ∧ H1 = B' ++ [bxO (p : Int)] ++ [.loop .done (some .ret) fid T n #[x] assign body D]) ∨ ∃ id, Eq id B' ∧ H1 = B' ++ [bxO (p : Int)] ++ [.loop .done (some (.exit id)) fid T n #[x] assign body D]))) ?_) ?_
    · refine Awp.mono hround fun e T1 H1 ⟨he1, Z, hH1, hbody⟩ => ?_
      subst hH1
      refine ⟨he1, none, fid, T, n, #[x], assign, body, D, by rw [← hB]; exact get_snd .., ?_⟩
      rw [← hB, set_snd, hB]
      refine Awp.mono hbody fun e T2 H2 ⟨B', X, hH2, hL, hpost⟩ => ?_
      subst hH2
      have hB' : B'.length = A.length := by rw [hL.len, hB]
      refine ⟨.busy, none, fid, T, n, #[x], assign, body, D, by rw [← hB']; exact get_snd .., ?_⟩
      cases e with
      | normal =>
        refine ⟨_, ?_, .inl ⟨rfl, B', hpost, rfl⟩⟩
        rw [← hB', set_snd]
        exact Vs.dropTo (by simp [hL.len]) (bel_mid hL (by simp [lp]) (fun _ => bel_lp)) (.val _)
      | ret =>
        refine ⟨_, ?_, .inr ⟨rfl, B', hB', .inl ⟨hpost, rfl⟩⟩⟩
        rw [← hB', set_snd]
        exact Vs.dropTo (by simp [hL.len]) (bel_mid hL (by simp [lp]) (fun _ => bel_lp)) (.val _)
      | exit id =>
        refine ⟨_, ?_, .inr ⟨rfl, B', hB', .inr ⟨id, hpost, rfl⟩⟩⟩
        rw [← hB', set_snd]
        exact Vs.dropTo (by simp [hL.len]) (bel_mid hL (by simp [lp]) (fun _ => bel_lp)) (.val _)
      | _ => exact hpost.elim
    · rintro v1 H1 (⟨rfl, B', hI', rfl⟩ | ⟨rfl, B', hB', h⟩)
      · have hB' := hl _ B' hI'
        refine .inl ⟨rfl, hpos B' _ hB', B', hI', ?_⟩
        rw [← hB', set_new2]; rfl
      · exact .inr ⟨rfl, B', p, hB', h⟩
  · exact ⟨A, h0, by rw [pathV_zero]⟩
  · rintro v H' (⟨B, hI, rfl⟩ | ⟨B, p, hB, (⟨hR, rfl⟩ | ⟨id, hE, rfl⟩)⟩)
    · rw [pathV_end]
      have hB := hl _ B hI
      refine ⟨.ready, none, fid, T, n, _, _, _, D, by rw [← hB]; exact get_snd0 .., by simp, ?_⟩
      rw [← hB, set_snd0]
      exact hn B hI
    · refine ⟨.done, some .ret, fid, T, n, _, _, _, D, by rw [← hB]; exact get_snd0 .., by simp, ?_⟩
      rw [← hB, set_snd0]
      exact Awp.ret (hr B p hB hR)
    · refine ⟨.done, some (.exit id), fid, T, n, _, _, _, D, by rw [← hB]; exact get_snd0 .., by simp, ?_⟩
      rw [← hB, set_snd0]
      exact Awp.exit (he id B p hB hE)

end Go.Proofs.Ytphfdbmbdaninaa.Ab
