/- Cables: the tree of a cable. -/
import Derived.Test.YtphfdbmbdaninaaW1
namespace Go.Proofs.Ytphfdbmbdaninaa.Ab
open Go Go.RowKit Go.Proofs
set_option linter.unusedSimpArgs false
set_option linter.unusedVariables false
attribute [local irreducible] Awp wpO thenQ blockQ bodyQ ACalls stepA

/-- the nodes from 1 to i that a node leads to -/
def kids (l : List Nd) (p : Nat) : Nat → List Int
  | 0 => []
  | i + 1 => kids l p i ++ (match l[i + 1]? with
    | some a => if a.par = p then [((i + 1 : Nat) : Int)] else []
    | none => [])

theorem kids_succ {l : List Nd} {p i : Nat} {a : Nd} (h : l[i + 1]? = some a) : kids l p (i + 1) = kids l p i ++ (if a.par = p then [((i + 1 : Nat) : Int)] else []) := by
  simp only [kids, h]

def rowF (l : List Nd) (p : Nat) : AV := if kids l p (l.length - 1) = [] then nilS else .rsl (ints (kids l p (l.length - 1))) false
/-- all that the nodes lead to -/
def nextV (l : List Nd) : AV := .rsl ((List.range l.length).map fun p => [rowF l p]) false
def treeV (c : Cb) : AV := .rptr (c.cs ++ [nextV c.l]) 0

structure OpI (H : Hp) (l : List Nd) (i : Nat) (H' : Hp) (rows : List (List AV)) (f : Nat → Nat) : Prop where
  len : H.length < H'.length
  old : ∀ j, j < H.length → H'[j]? = H[j]?
  rn : rows.length = l.length
  row : H'[H.length]? = some (.cells rows 42)
  non : ∀ p, p < l.length → kids l p i = [] → rows[p]? = some [nilS]
  own : ∀ p, p < l.length → kids l p i ≠ [] → rows[p]? = some [.msl (f p) 0 (kids l p i).length] ∧ H.length < f p ∧ f p < H'.length ∧ H'[f p]? = some (.cells (ints (kids l p i)) 3)
  inj : ∀ p q, p < l.length → q < l.length → kids l p i ≠ [] → kids l q i ≠ [] → f p = f q → p = q

theorem kids_le {l : List Nd} {p : Nat} : ∀ {i : Nat}, (kids l p i).length ≤ i
  | 0 => by simp [kids]
  | i + 1 => by
    have := kids_le (l := l) (p := p) (i := i)
    simp only [kids, List.length_append]
    split
    · split <;> simp <;> omega
    · simp; omega

theorem OpI.step {H : Hp} {l : List Nd} {i : Nat} {H' D : Hp} {rows : List (List AV)} {f : Nat → Nat} {a : Nd} {p0 : Nat} (hI : OpI H l i H' rows f) (ha : l[i + 1]? = some a) (hp : a.par = p0) (hp0 : p0 < l.length)
    (hl : D.length = H'.length + 1) (hD : ∀ j, j < H'.length → (kids l p0 i = [] ∨ j ≠ f p0) → D[j]? = H'[j]?) :
    OpI H l (i + 1) ((D ++ [AObj.cells (ints (kids l p0 i ++ [((i + 1 : Nat) : Int)])) 3]).set H.length (.cells (rows.set p0 [.msl D.length 0 ((kids l p0 i).length + 1)]) 42)) (rows.set p0 [.msl D.length 0 ((kids l p0 i).length + 1)]) (fun p => if p = p0 then D.length else f p) := by
  have hlen := hI.len
  have hk : ∀ p, kids l p (i + 1) = if p = p0 then kids l p0 i ++ [((i + 1 : Nat) : Int)] else kids l p i := fun p => by
    rw [kids_succ ha, hp]
    by_cases e : p = p0
    · subst e; rw [if_pos rfl, if_pos rfl]
    · rw [if_neg (by omega), if_neg e, List.append_nil]
  have hget : ∀ j, j < H'.length → j ≠ H.length → (kids l p0 i = [] ∨ j ≠ f p0) → ((D ++ [AObj.cells (ints (kids l p0 i ++ [((i + 1 : Nat) : Int)])) 3]).set H.length (.cells (rows.set p0 [.msl D.length 0 ((kids l p0 i).length + 1)]) 42))[j]? = H'[j]? := fun j h1 h2 h3 => by
    rw [List.getElem?_set_ne (Ne.symm h2), List.getElem?_append_left (by omega)]
    exact hD j h1 h3
  refine ⟨by simp; omega, fun j hj => ?_, by simp [hI.rn], ?_, fun p hp' h => ?_, fun p hp' h => ?_, fun p q hp' hq' h h' e => ?_⟩
  · rw [hget j (by omega) (by omega) ?_]
    · exact hI.old j hj
    · by_cases e : kids l p0 i = []
      · exact .inl e
      · have := (hI.own p0 hp0 e).2.1
        exact .inr (by omega)
  · rw [List.getElem?_set_self (by simp; omega)]
  · rw [hk] at h
    by_cases e : p = p0
    · rw [if_pos e] at h; simp at h
    · rw [if_neg e] at h
      rw [List.getElem?_set_ne (fun h => e h.symm)]
      exact hI.non p hp' h
  · simp only [hk] at h ⊢
    by_cases e : p = p0
    · subst e
      simp only [if_true]
      refine ⟨by rw [List.getElem?_set_self (by rw [hI.rn]; exact hp'), List.length_append]; rfl, by omega, by simp, ?_⟩
      rw [List.getElem?_set_ne (by omega), List.getElem?_append_right (Nat.le_refl _)]
      simp
    · simp only [if_neg e] at h ⊢
      obtain ⟨k1, k2, k3, k4⟩ := hI.own p hp' h
      refine ⟨by rw [List.getElem?_set_ne (fun h => e h.symm)]; exact k1, k2, by simp; omega, ?_⟩
      rw [hget _ k3 (by omega) ?_]
      · exact k4
      · by_cases e0 : kids l p0 i = []
        · exact .inl e0
        · exact .inr fun h2 => e (hI.inj p p0 hp' hp0 h e0 h2)
  · simp only [hk] at h h'
    by_cases e1 : p = p0
    · by_cases e2 : q = p0
      · rw [e1, e2]
      · simp only [if_pos e1, if_neg e2] at e h'
        have := (hI.own q hq' h').2.2.1
        omega
    · by_cases e2 : q = p0
      · simp only [if_neg e1, if_pos e2] at e h
        have := (hI.own p hp' h).2.2.1
        omega
      · simp only [if_neg e1, if_neg e2] at e h h'
        exact hI.inj p q hp' hq' h h' e

structure FrI (H : Hp) (l : List Nd) (m : Nat) (H' : Hp) (rows : List (List AV)) (f : Nat → Nat) : Prop where
  len : H.length < H'.length
  old : ∀ j, j < H.length → H'[j]? = H[j]?
  rn : rows.length = l.length
  row : H'[H.length]? = some (.cells rows 42)
  did : ∀ p, p < m → rows[p]? = some [rowF l p]
  non : ∀ p, m ≤ p → p < l.length → kids l p (l.length - 1) = [] → rows[p]? = some [nilS]
  own : ∀ p, m ≤ p → p < l.length → kids l p (l.length - 1) ≠ [] → rows[p]? = some [.msl (f p) 0 (kids l p (l.length - 1)).length] ∧ H.length < f p ∧ H'[f p]? = some (.cells (ints (kids l p (l.length - 1))) 3)
  inj : ∀ p q, m ≤ p → m ≤ q → p < l.length → q < l.length → kids l p (l.length - 1) ≠ [] → kids l q (l.length - 1) ≠ [] → f p = f q → p = q

theorem freezeRows {H H' : Hp} {l : List Nd} {rows : List (List AV)} {f : Nat → Nat} (hI : OpI H l (l.length - 1) H' rows f) (a : AV) : ∀ m, m ≤ l.length → ∃ H2 rows2, Vs H a H' a H2 ∧ FrI H l m H2 rows2 f
  | 0, _ => ⟨H', rows, Vs.refl _ _ _, hI.len, hI.old, hI.rn, hI.row, fun p h => absurd h (Nat.not_lt_zero _), fun p _ h h2 => hI.non p h h2, fun p _ h h2 => ⟨(hI.own p h h2).1, (hI.own p h h2).2.1, (hI.own p h h2).2.2.2⟩, fun p q _ _ h1 h2 h3 h4 h5 => hI.inj p q h1 h2 h3 h4 h5⟩
  | m + 1, hm => by
    obtain ⟨H2, rows2, hV, hF⟩ := freezeRows hI a m (by omega)
    by_cases hk : kids l m (l.length - 1) = []
    · refine ⟨H2, rows2, hV, hF.len, hF.old, hF.rn, hF.row, fun p hp => ?_, fun p h1 => hF.non p (by omega), fun p h1 => hF.own p (by omega), fun p q h1 h2 => hF.inj p q (by omega) (by omega)⟩
      by_cases e : p = m
      · subst e
        rw [hF.non p (Nat.le_refl _) (by omega) hk]
        unfold rowF
        rw [if_pos hk]
      · exact hF.did p (by omega)
    · obtain ⟨h1, h2, h3⟩ := hF.own m (Nat.le_refl _) (by omega) hk
      have hf := Vs.freezeRow (H0 := H) (a := a) (Nat.ne_of_lt h2) hF.row h1 h3 (by simp [ints])
      rw [List.take_of_length_le (by simp [ints])] at hf
      refine ⟨_, rows2.set m [.rsl (ints (kids l m (l.length - 1))) false], hV.trans hf, by simpa using hF.len, fun j hj => ?_, by simpa using hF.rn, ?_, fun p hp => ?_, fun p h4 h5 h6 => ?_, fun p h4 h5 h6 => ?_, fun p q h1 h2 => hF.inj p q (by omega) (by omega)⟩
      · rw [List.getElem?_set_ne (by omega), List.getElem?_set_ne (by omega)]
        exact hF.old j hj
      · rw [List.getElem?_set_self (by simpa using hF.len)]
      · by_cases e : p = m
        · subst e
          rw [List.getElem?_set_self (by rw [hF.rn]; omega)]
          unfold rowF
          rw [if_neg hk]
        · rw [List.getElem?_set_ne (fun h => e h.symm)]
          exact hF.did p (by omega)
      · rw [List.getElem?_set_ne (by omega)]
        exact hF.non p (by omega) h5 h6
      · obtain ⟨k1, k2, k3⟩ := hF.own p (by omega) h5 h6
        refine ⟨by rw [List.getElem?_set_ne (by omega)]; exact k1, k2, ?_⟩
        rw [List.getElem?_set_ne (by omega), List.getElem?_set_ne (fun e => by have := hF.inj m p (Nat.le_refl _) (by omega) (by omega) h5 hk h6 e; omega)]
        exact k3

theorem rowsF_eq {l : List Nd} {rows : List (List AV)} (hn : rows.length = l.length) (h : ∀ p, p < l.length → rows[p]? = some [rowF l p]) : rows = (List.range l.length).map fun p => [rowF l p] := by
  refine List.ext_getElem? fun p => ?_
  rw [List.getElem?_map]
  by_cases hp : p < l.length
  · rw [h p hp, List.getElem?_range hp]; rfl
  · rw [List.getElem?_eq_none (by omega), List.getElem?_eq_none (by simp; omega)]; rfl

theorem heapOld {H K : Hp} (h : ∀ i, i < H.length → K[i]? = H[i]?) (hl : H.length ≤ K.length) : K = H ++ K.drop H.length := by
  refine List.ext_getElem? fun i => ?_
  by_cases hi : i < H.length
  · rw [h i hi, List.getElem?_append_left hi]
  · rw [List.getElem?_append_right (by omega), List.getElem?_drop]
    congr 1
    omega

theorem rowF_bel (l : List Nd) (p m : Nat) : Bel m (rowF l p) := by
  unfold rowF
  split
  · exact .val _
  · simp [Bel_iff_rsl, ints, Bel_val]

/-- the tree that is handed back never turns again -/
theorem openEnd {H H' : Hp} {c : Cb} {rows : List (List AV)} {f : Nat → Nat} (hI : OpI H c.l (c.l.length - 1) H' rows f) : Vs H (.tup [.rptr (c.cs ++ [.msl H.length 0 c.l.length]) 0, iv 0]) H' (.tup [treeV c, iv 0]) H := by
  obtain ⟨H2, rows2, hV, hF⟩ := freezeRows hI (.tup [.rptr (c.cs ++ [.msl H.length 0 c.l.length]) 0, iv 0]) c.l.length (Nat.le_refl _)
  refine hV.trans ?_
  have hr := rowsF_eq hF.rn (fun p hp => hF.did p hp)
  have hfz : Vs H (.tup [.rptr (c.cs ++ [.msl H.length 0 c.l.length]) 0, iv 0]) H2 (.tup [treeV c, iv 0]) (H2.set H.length .dead) := by
    refine Vs.freezeV hF.row (.tup rfl fun i a a' ha ha' => ?_)
    match i with
    | 0 =>
      cases ha
      cases ha'
      refine .rptr (by simp) fun i a a' ha ha' => ?_
      by_cases hi : i < c.cs.length
      · rw [List.getElem?_append_left hi] at ha ha'
        rw [ha] at ha'
        cases ha'
        exact .same _
      · rw [List.getElem?_append_right (by omega)] at ha ha'
        match h : i - c.cs.length with
        | 0 =>
          rw [h] at ha ha'
          cases ha
          cases ha'
          have := Fz.here (b := H.length) (es := rows2) (off := 0) (len := c.l.length) (by rw [hF.rn]; omega)
          rw [List.drop_zero, List.take_of_length_le (by rw [hF.rn]; exact Nat.le_refl _), hr] at this
          rw [hr]
          exact this
        | k + 1 => rw [h] at ha; simp at ha
    | 1 => cases ha; cases ha'; exact .same _
    | k + 2 => simp at ha
  refine hfz.trans ?_
  rw [heapOld (H := H) (K := H2.set H.length .dead) (fun i hi => by rw [List.getElem?_set_ne (by omega)]; exact hF.old i hi) (by simp; exact Nat.le_of_lt hF.len)]
  refine Vs.drop ?_
  simp only [Bel_iff_tup, List.mem_cons, List.not_mem_nil, or_false, forall_eq_or_imp, forall_eq]
  refine ⟨?_, .val _⟩
  unfold treeV nextV
  rw [Bel_iff_rptr]
  intro a ha
  simp only [Cb.cs, List.cons_append, List.nil_append, List.mem_cons, List.not_mem_nil, or_false] at ha
  rcases ha with rfl | rfl | rfl | rfl
  · exact .val _
  · exact .val _
  · simp [Bel_iff_rsl, Nd.cs, Bel_val]
  · simp only [Bel_iff_rsl, List.mem_map, List.mem_range]
    rintro e ⟨p, _, rfl⟩ a ha
    simp only [List.mem_cons, List.not_mem_nil, or_false] at ha
    subst ha
    exact rowF_bel _ _ _

theorem open_no (H : Hp) (c : Cb) (h : c.code ≠ 0) : CallsTo Try.prog 68 [.agg c.cs] H (.tup [nilP, iv c.code]) H := by
  refine ACalls.of_body Try.func68 rfl (by kernel_rfl) (by rw [Try.ntmps68]; simp) ?_; rw [Try.ntmps68]
  repeat' ((fail_if_success (apply stopR (id := 4))); (fail_if_success (apply stopS (id := 4))); first | refine spD (fun _ => ?_) (fun _ => ?_) | refine spF (fun _ => ?_) (fun _ => ?_) | (apply gT; (exact rfl)) | (apply off; (exact rfl); (exact rfl)) | (apply condT; (exact rfl)) | (apply condF; (exact rfl)) | ((first | (apply stp0; (exact rfl); (exact rfl)) | (apply stpN0; (exact rfl)) | apply gT | apply condT | ((first | apply bodyQ_d0 | apply bodyQ_d1 | apply bodyQ_d2 | apply bodyQ_d3 | apply bodyQ_d4); (exact .inr rfl); (rw [Try.results68]))); (first | (focus (simp only [go_sem, ↓reduceIte, Nat.reduceEqDiff, Nat.reduceBEq, Nat.reduceAdd, Nat.reduceLeDiff, Nat.reduceMul, Nat.reduceLT, Int.reduceToNat, reduceCtorEq, Int.reduceBEq, Int.reduceBNe, Int.reduceLT, Int.reduceLE, Int.reduceGT, Int.reduceGE, Cb.cs] <;> rfl)) | exact rfl); (first | (fail_if_success (show okD _ _ _ _ _ _ _ _ _)) | (first | exact okT | exact okN | exact okE rfl)); (first | (fail_if_success (show Bel _ _)) | (focus first | exact .val _ | (simp [oneOf, Bel_iff_tup, Bel_iff_agg, Bel_iff_rsl, Bel_iff_fn, Bel_iff_rptr, Bel_val]; done)))) | (apply calTo0; (exact rfl); (iterate 2 (simp only [go_sem, ↓reduceIte, Nat.reduceEqDiff, Nat.reduceBEq, Nat.reduceAdd, Nat.reduceLeDiff, Nat.reduceMul, Nat.reduceLT, Int.reduceToNat, reduceCtorEq, Int.reduceBEq, Int.reduceBNe, Int.reduceLT, Int.reduceLE, Int.reduceGT, Int.reduceGE, Cb.cs]; rfl)); (first | exact Check_ok _ c); (first | exact okT | exact okN | exact okE rfl)) | refine thenQ_n ?_ | refine thenQ_r ?_ | refine thenQ_e ?_ | refine blockQ_n ?_ | refine blockQ_r ?_ | refine blockQ_e ?_ | (apply blockQ_o; (exact rfl)) | refine Awp.seq ?_ | refine Awp.skip ?_ | refine Awp.block ?_ | refine reg (fun s => s == 7) ?_ | (apply drwE mixed (fun s => s == 7); (kernel_rfl)) | refine fin ?_ | refine Awp.ret ?_ | refine Awp.exit ?_ | ((first | (apply off; (exact rfl)) | apply condF); (first | (focus (simp only [go_sem, ↓reduceIte, Nat.reduceEqDiff, Nat.reduceBEq, Nat.reduceAdd, Nat.reduceLeDiff, Nat.reduceMul, Nat.reduceLT, Int.reduceToNat, reduceCtorEq, Int.reduceBEq, Int.reduceBNe, Int.reduceLT, Int.reduceLE, Int.reduceGT, Int.reduceGE, Cb.cs] <;> rfl)) | exact rfl)))
  all_goals first | rfl | (exfalso; exact h (by assumption))

set_option maxRecDepth 8000 in
set_option maxHeartbeats 4000000 in
theorem open_ok (H : Hp) (c : Cb) (h : c.good) : CallsTo Try.prog 68 [.agg c.cs] H (.tup [treeV c, iv 0]) H := by
  obtain ⟨h1, h20, hs, hn⟩ := h.h
  have hc0 := h.2
  have hk := fun H => Check_ok H c
  rw [hc0] at hk
  obtain ⟨s, l, ex⟩ := c
  simp only [] at h1 h20 hs hn
  have hm : l.length ≤ maxLen := by simp only [maxLen]; omega
  have n0 : (0 : Int) ≤ (l.length : Int) := by omega
  have n1 : ((24 : Nat) : Int) * (l.length : Int) ≤ 281474976710656 := by omega
  have n2 : (24 : Int) * (l.length : Int) ≤ 281474976710656 := by omega
  have n3 : (l.length : Int) ≤ 9223372036854775807 := by omega
  have hsl : sliceA Try.prog 24 (.rsl (l.map Nd.cs) ex) (some (.val (.int .i64 1))) none none = some (.rsl ((l.map Nd.cs).drop 1) ex) := by
    rw [sl24]
    unfold sliceB bnd
    have e1 : (l.map Nd.cs)[1]?.map List.length = some 8 ∨ 1 = (l.map Nd.cs).length := by
      rcases Nat.lt_or_ge 1 l.length with h | h
      · obtain ⟨a, ha⟩ := nth h
        exact .inl (by rw [List.getElem?_map, ha]; rfl)
      · exact .inr (by simp; omega)
    simp only [show (0 : Int) ≤ 1 by omega, if_true, Option.isSome_none, Bool.false_eq_true, if_false, false_implies, and_true, Int.toNat_one, List.take_length]
    rw [if_pos ⟨by simp; omega, Nat.le_refl _, Nat.le_refl _, e1.symm⟩]
    simp
  refine ACalls.of_body Try.func68 rfl (by kernel_rfl) (by rw [Try.ntmps68]; simp) ?_; rw [Try.ntmps68]
  repeat' ((fail_if_success (apply stopR (id := 5))); (fail_if_success (apply stopS (id := 5))); first | refine spD (fun _ => ?_) (fun _ => ?_) | refine spF (fun _ => ?_) (fun _ => ?_) | (apply gT; (exact rfl)) | (apply off; (exact rfl); (exact rfl)) | (apply condT; (exact rfl)) | (apply condF; (exact rfl)) | ((first | (apply stp0; (exact rfl); (exact rfl)) | (apply stpN0; (exact rfl)) | apply gT | apply condT | ((first | apply bodyQ_d0 | apply bodyQ_d1 | apply bodyQ_d2 | apply bodyQ_d3 | apply bodyQ_d4); (exact .inr rfl); (rw [Try.results68]))); (first | (focus (simp only [go_sem, ↓reduceIte, Nat.reduceEqDiff, Nat.reduceBEq, Nat.reduceAdd, Nat.reduceLeDiff, Nat.reduceMul, Nat.reduceLT, Int.reduceToNat, reduceCtorEq, Int.reduceBEq, Int.reduceBNe, Int.reduceLT, Int.reduceLE, Int.reduceGT, Int.reduceGE, Cb.cs, n0, n1, n2, n3, and_self] <;> rfl)) | exact rfl); (first | (fail_if_success (show okD _ _ _ _ _ _ _ _ _)) | (first | exact trivial | exact ⟨fun _ => rfl, fun _ _ => rfl, fun h => Bool.noConfusion (show false = true from h)⟩ | (refine ⟨fun _ => rfl, fun _ _ => rfl, fun _ H2 _ => ?_⟩; unfold PerfTo; simp only [callOf]; (focus first | (simp only [go_sem, ↓reduceIte, Nat.reduceEqDiff, Nat.reduceBEq, Nat.reduceAdd, Nat.reduceLeDiff, Nat.reduceMul, Nat.reduceLT, Int.reduceToNat, reduceCtorEq, Int.reduceBEq, Int.reduceBNe, Int.reduceLT, Int.reduceLE, Int.reduceGT, Int.reduceGE, Cb.cs, n0, n1, n2, n3, and_self]; done) | (simp only [go_sem, ↓reduceIte, Nat.reduceEqDiff, Nat.reduceBEq, Nat.reduceAdd, Nat.reduceLeDiff, Nat.reduceMul, Nat.reduceLT, Int.reduceToNat, reduceCtorEq, Int.reduceBEq, Int.reduceBNe, Int.reduceLT, Int.reduceLE, Int.reduceGT, Int.reduceGE, Cb.cs, n0, n1, n2, n3, and_self]; rfl))) | exact ⟨fun h => Bool.noConfusion (show true = false from h), fun _ h => Bool.noConfusion (show false = true from h), fun h => Bool.noConfusion (show false = true from h)⟩)); (first | (fail_if_success (show Bel _ _)) | (focus first | exact .val _ | (simp [oneOf, Bel_iff_tup, Bel_iff_agg, Bel_iff_rsl, Bel_iff_fn, Bel_iff_rptr, Bel_val]; done)))) | (apply calTo0; (exact rfl); (iterate 2 (simp only [go_sem, ↓reduceIte, Nat.reduceEqDiff, Nat.reduceBEq, Nat.reduceAdd, Nat.reduceLeDiff, Nat.reduceMul, Nat.reduceLT, Int.reduceToNat, reduceCtorEq, Int.reduceBEq, Int.reduceBNe, Int.reduceLT, Int.reduceLE, Int.reduceGT, Int.reduceGE, Cb.cs, n0, n1, n2, n3, and_self]; rfl)); (first | (exact hk _; (first | (first | exact trivial | exact ⟨fun _ => rfl, fun _ _ => rfl, fun h => Bool.noConfusion (show false = true from h)⟩ | (refine ⟨fun _ => rfl, fun _ _ => rfl, fun _ H2 _ => ?_⟩; unfold PerfTo; simp only [callOf]; (focus first | (simp only [go_sem, ↓reduceIte, Nat.reduceEqDiff, Nat.reduceBEq, Nat.reduceAdd, Nat.reduceLeDiff, Nat.reduceMul, Nat.reduceLT, Int.reduceToNat, reduceCtorEq, Int.reduceBEq, Int.reduceBNe, Int.reduceLT, Int.reduceLE, Int.reduceGT, Int.reduceGE, Cb.cs, n0, n1, n2, n3, and_self]; done) | (simp only [go_sem, ↓reduceIte, Nat.reduceEqDiff, Nat.reduceBEq, Nat.reduceAdd, Nat.reduceLeDiff, Nat.reduceMul, Nat.reduceLT, Int.reduceToNat, reduceCtorEq, Int.reduceBEq, Int.reduceBNe, Int.reduceLT, Int.reduceLE, Int.reduceGT, Int.reduceGE, Cb.cs, n0, n1, n2, n3, and_self]; rfl))) | exact ⟨fun h => Bool.noConfusion (show true = false from h), fun _ h => Bool.noConfusion (show false = true from h), fun h => Bool.noConfusion (show false = true from h)⟩) | exact ⟨fun _ => rfl, fun _ _ => rfl, fun _ H2 _ => perf_call (by (first | (focus (simp only [go_sem, ↓reduceIte, Nat.reduceEqDiff, Nat.reduceBEq, Nat.reduceAdd, Nat.reduceLeDiff, Nat.reduceMul, Nat.reduceLT, Int.reduceToNat, reduceCtorEq, Int.reduceBEq, Int.reduceBNe, Int.reduceLT, Int.reduceLE, Int.reduceGT, Int.reduceGE, Cb.cs, n0, n1, n2, n3, and_self] <;> rfl)) | exact rfl)) (by (first | (focus (simp only [go_sem, ↓reduceIte, Nat.reduceEqDiff, Nat.reduceBEq, Nat.reduceAdd, Nat.reduceLeDiff, Nat.reduceMul, Nat.reduceLT, Int.reduceToNat, reduceCtorEq, Int.reduceBEq, Int.reduceBNe, Int.reduceLT, Int.reduceLE, Int.reduceGT, Int.reduceGE, Cb.cs, n0, n1, n2, n3, and_self] <;> rfl)) | exact rfl)) (hk _)⟩)))) | refine thenQ_n ?_ | refine thenQ_r ?_ | refine thenQ_e ?_ | refine blockQ_n ?_ | refine blockQ_r ?_ | refine blockQ_e ?_ | (apply blockQ_o; (exact rfl)) | refine Awp.seq ?_ | refine Awp.skip ?_ | refine Awp.block ?_ | refine reg (fun s => s == 7) ?_ | (apply drw mixed (fun s => s == 7) ⟨fun i => i == 4 || i == 6, fun i => i == 0 || i == 2 || i == 3, fun _ => false⟩; (kernel_rfl)) | refine fin ?_ | refine Awp.ret ?_ | refine Awp.exit ?_ | ((first | (apply off; (exact rfl)) | apply condF); (first | (focus (simp only [go_sem, ↓reduceIte, Nat.reduceEqDiff, Nat.reduceBEq, Nat.reduceAdd, Nat.reduceLeDiff, Nat.reduceMul, Nat.reduceLT, Int.reduceToNat, reduceCtorEq, Int.reduceBEq, Int.reduceBNe, Int.reduceLT, Int.reduceLE, Int.reduceGT, Int.reduceGE, Cb.cs, n0, n1, n2, n3, and_self] <;> rfl)) | exact rfl)))
  have hdl : ((l.map Nd.cs).drop 1).length = l.length - 1 := by simp
  repeat' ((fail_if_success (apply stopR (id := 6))); (fail_if_success (apply stopS (id := 6))); first | refine spD (fun _ => ?_) (fun _ => ?_) | refine spF (fun _ => ?_) (fun _ => ?_) | (apply gT; (exact rfl)) | (apply off; (exact rfl); (exact rfl)) | (apply condT; (exact rfl)) | (apply condF; (exact rfl)) | ((first | (apply stp0; (exact rfl); (exact rfl)) | (apply stpN0; (exact rfl)) | apply gT | apply condT | ((first | apply bodyQ_d0 | apply bodyQ_d1 | apply bodyQ_d2 | apply bodyQ_d3 | apply bodyQ_d4); (exact .inr rfl); (rw [Try.results68]))); (first | (focus (simp only [go_sem, ↓reduceIte, Nat.reduceEqDiff, Nat.reduceBEq, Nat.reduceAdd, Nat.reduceLeDiff, Nat.reduceMul, Nat.reduceLT, Int.reduceToNat, reduceCtorEq, Int.reduceBEq, Int.reduceBNe, Int.reduceLT, Int.reduceLE, Int.reduceGT, Int.reduceGE, hdl, hsl] <;> rfl)) | exact rfl); (first | (fail_if_success (show okD _ _ _ _ _ _ _ _ _)) | (first | exact okT | exact okN | exact okE rfl)); (first | (fail_if_success (show Bel _ _)) | (focus first | exact .val _ | (simp [oneOf, Bel_iff_tup, Bel_iff_agg, Bel_iff_rsl, Bel_iff_fn, Bel_iff_rptr, Bel_val]; done)))) | refine thenQ_n ?_ | refine thenQ_r ?_ | refine thenQ_e ?_ | refine blockQ_n ?_ | refine blockQ_r ?_ | refine blockQ_e ?_ | (apply blockQ_o; (exact rfl)) | refine Awp.seq ?_ | refine Awp.skip ?_ | refine Awp.block ?_ | refine reg (fun s => s == 7) ?_ | (apply drwE mixed (fun s => s == 7); (kernel_rfl)) | refine fin ?_ | refine Awp.ret ?_ | refine Awp.exit ?_ | ((first | (apply off; (exact rfl)) | apply condF); (first | (focus (simp only [go_sem, ↓reduceIte, Nat.reduceEqDiff, Nat.reduceBEq, Nat.reduceAdd, Nat.reduceLeDiff, Nat.reduceMul, Nat.reduceLT, Int.reduceToNat, reduceCtorEq, Int.reduceBEq, Int.reduceBNe, Int.reduceLT, Int.reduceLE, Int.reduceGT, Int.reduceGE, hdl, hsl] <;> rfl)) | exact rfl)))
  refine Awp.loop (ι := Nat) (fun i T' H' => i ≤ l.length - 1 ∧ T' 24 = iv i ∧ T' 22 = .rsl ((l.map Nd.cs).drop 1) ex ∧ T' 23 = iv ((l.length - 1 : Nat) : Int) ∧ T' 5 = .rptr [iv s.lo, iv s.hi, .rsl (l.map Nd.cs) ex, .msl H.length 0 l.length] 0 ∧ T' 3 = iv 0 ∧ ∃ rows f, OpI H l i H' rows f) (fun i => l.length - 1 - i) 0 ?_ ?_
  · refine ⟨by simp, ?_, ?_, ?_, ?_, ?_, List.replicate l.length [nilS], fun _ => 0, ?_⟩
    · simp only [go_sem, ↓reduceIte, Nat.reduceEqDiff, Nat.reduceBEq, Nat.reduceAdd, Nat.reduceLeDiff, Nat.reduceMul, Nat.reduceLT, Int.reduceToNat, reduceCtorEq, Int.reduceBEq, Int.reduceBNe, Int.reduceLT, Int.reduceLE, Int.reduceGT, Int.reduceGE]; rfl
    · simp only [go_sem, ↓reduceIte, Nat.reduceEqDiff, Nat.reduceBEq, Nat.reduceAdd, Nat.reduceLeDiff, Nat.reduceMul, Nat.reduceLT, Int.reduceToNat, reduceCtorEq, Int.reduceBEq, Int.reduceBNe, Int.reduceLT, Int.reduceLE, Int.reduceGT, Int.reduceGE]
    · simp only [go_sem, ↓reduceIte, Nat.reduceEqDiff, Nat.reduceBEq, Nat.reduceAdd, Nat.reduceLeDiff, Nat.reduceMul, Nat.reduceLT, Int.reduceToNat, reduceCtorEq, Int.reduceBEq, Int.reduceBNe, Int.reduceLT, Int.reduceLE, Int.reduceGT, Int.reduceGE]
    · simp only [go_sem, ↓reduceIte, Nat.reduceEqDiff, Nat.reduceBEq, Nat.reduceAdd, Nat.reduceLeDiff, Nat.reduceMul, Nat.reduceLT, Int.reduceToNat, reduceCtorEq, Int.reduceBEq, Int.reduceBNe, Int.reduceLT, Int.reduceLE, Int.reduceGT, Int.reduceGE]
    · simp only [go_sem, ↓reduceIte, Nat.reduceEqDiff, Nat.reduceBEq, Nat.reduceAdd, Nat.reduceLeDiff, Nat.reduceMul, Nat.reduceLT, Int.reduceToNat, reduceCtorEq, Int.reduceBEq, Int.reduceBNe, Int.reduceLT, Int.reduceLE, Int.reduceGT, Int.reduceGE]
    · refine ⟨by simp, fun j hj => List.getElem?_append_left hj, by simp, get_new _ _, fun p hp _ => by simp [hp], fun p hp h => absurd rfl h, fun p q _ _ h => absurd rfl h⟩
  rintro i T H' ⟨hi, h24, h22, h23, h5, h3, rows, f, hI⟩
  by_cases hlt : i < l.length - 1
  · obtain ⟨a, ha⟩ := nth (show i + 1 < l.length by omega)
    obtain ⟨par, olo, ohi, lim, llo, lhi, least, delay⟩ := a
    have hnd := (hn (i + 1) _ ha).1
    unfold headOk at hnd
    simp only [] at hnd
    obtain ⟨p0, rfl⟩ := Int.eq_ofNat_of_zero_le (show 0 ≤ par by omega)
    have hac := nthMap Nd.cs ha
    have hdr : ((l.map Nd.cs).drop 1)[i]? = some (Nd.cs ⟨p0, olo, ohi, lim, llo, lhi, least, delay⟩) := by rw [List.getElem?_drop, Nat.add_comm]; exact hac
    simp only [Nd.cs] at hdr
    have hp0n : p0 < l.length := by omega
    have hw : IntKind.i64.wrap ((i : Int) + 1) = ((i + 1 : Nat) : Int) := wsucc hlt (by omega)
    have hb0 := held hI.row
    have hrn := hI.rn
    have hlen := hI.len
    have hp0r : p0 < rows.length := by omega
    by_cases hk0 : kids l p0 i = []
    · have hrow := hI.non p0 hp0n hk0
      repeat' ((fail_if_success (apply stopR (id := 8))); (fail_if_success (apply stopS (id := 8))); first | refine spD (fun _ => ?_) (fun _ => ?_) | refine spF (fun _ => ?_) (fun _ => ?_) | (apply gT; (exact rfl)) | (apply off; (exact rfl); (exact rfl)) | (apply condT; (exact rfl)) | (apply condF; (exact rfl)) | ((first | (apply stp0; (exact rfl); (exact rfl)) | (apply stpN0; (exact rfl)) | apply gT | apply condT | ((first | apply bodyQ_d0 | apply bodyQ_d1 | apply bodyQ_d2 | apply bodyQ_d3 | apply bodyQ_d4); (exact .inr rfl); (rw [Try.results68]))); (first | (focus (simp only [go_sem, ↓reduceIte, Nat.reduceEqDiff, Nat.reduceBEq, Nat.reduceAdd, Nat.reduceLeDiff, Nat.reduceMul, Nat.reduceLT, Int.reduceToNat, reduceCtorEq, Int.reduceBEq, Int.reduceBNe, Int.reduceLT, Int.reduceLE, Int.reduceGT, Int.reduceGE, h24, h22, h23, h5, h3, hdr, hdl] <;> rfl)) | exact rfl); (first | (fail_if_success (show okD _ _ _ _ _ _ _ _ _)) | (first | exact okT | exact okN | exact okE rfl)); (first | (fail_if_success (show Bel _ _)) | (focus first | exact .val _ | (simp [oneOf, Bel_iff_tup, Bel_iff_agg, Bel_iff_rsl, Bel_iff_fn, Bel_iff_rptr, Bel_val]; done)))) | refine thenQ_n ?_ | refine thenQ_r ?_ | refine thenQ_e ?_ | refine blockQ_n ?_ | refine blockQ_r ?_ | refine blockQ_e ?_ | (apply blockQ_o; (exact rfl)) | refine Awp.seq ?_ | refine Awp.skip ?_ | refine Awp.block ?_ | refine reg (fun s => s == 7) ?_ | (apply drwE mixed (fun s => s == 7); (kernel_rfl)) | refine fin ?_ | refine Awp.ret ?_ | refine Awp.exit ?_ | ((first | (apply off; (exact rfl)) | apply condF); (first | (focus (simp only [go_sem, ↓reduceIte, Nat.reduceEqDiff, Nat.reduceBEq, Nat.reduceAdd, Nat.reduceLeDiff, Nat.reduceMul, Nat.reduceLT, Int.reduceToNat, reduceCtorEq, Int.reduceBEq, Int.reduceBNe, Int.reduceLT, Int.reduceLE, Int.reduceGT, Int.reduceGE, h24, h22, h23, h5, h3, hdr, hdl] <;> rfl)) | exact rfl)))
      all_goals first | (exfalso; omega) | skip
      repeat' (first | refine spD (fun _ => ?_) (fun _ => ?_) | refine spF (fun _ => ?_) (fun _ => ?_) | (apply gT; (exact rfl)) | (apply off; (exact rfl); (exact rfl)) | (apply condT; (exact rfl)) | (apply condF; (exact rfl)) | ((first | (apply stp0; (exact rfl); (exact rfl)) | (apply stpN0; (exact rfl)) | apply gT | apply condT | ((first | apply bodyQ_d0 | apply bodyQ_d1 | apply bodyQ_d2 | apply bodyQ_d3 | apply bodyQ_d4); (exact .inr rfl); (rw [Try.results68]))); (first | (focus (simp only [go_sem, ↓reduceIte, Nat.reduceEqDiff, Nat.reduceBEq, Nat.reduceAdd, Nat.reduceLeDiff, Nat.reduceMul, Nat.reduceLT, Int.reduceToNat, reduceCtorEq, Int.reduceBEq, Int.reduceBNe, Int.reduceLT, Int.reduceLE, Int.reduceGT, Int.reduceGE, h24, h22, h23, h5, h3, hb0, hrow, Nat.zero_add, hrn, hp0n, hw] <;> rfl)) | exact rfl); (first | (fail_if_success (show okD _ _ _ _ _ _ _ _ _)) | (first | exact trivial | exact ⟨fun _ => rfl, fun _ _ => rfl, fun h => Bool.noConfusion (show false = true from h)⟩ | (refine ⟨fun _ => rfl, fun _ _ => rfl, fun _ H2 hk => ?_⟩; have e := (hk (H'.length) (beq_self_eq_true _)).trans (get_new H' _); unfold PerfTo; simp only [callOf]; (focus first | (simp only [go_sem, ↓reduceIte, Nat.reduceEqDiff, Nat.reduceBEq, Nat.reduceAdd, Nat.reduceLeDiff, Nat.reduceMul, Nat.reduceLT, Int.reduceToNat, reduceCtorEq, Int.reduceBEq, Int.reduceBNe, Int.reduceLT, Int.reduceLE, Int.reduceGT, Int.reduceGE, h24, h22, h23, h5, h3, hb0, hrow, Nat.zero_add, hrn, hp0n, hw, e]; done) | (simp only [go_sem, ↓reduceIte, Nat.reduceEqDiff, Nat.reduceBEq, Nat.reduceAdd, Nat.reduceLeDiff, Nat.reduceMul, Nat.reduceLT, Int.reduceToNat, reduceCtorEq, Int.reduceBEq, Int.reduceBNe, Int.reduceLT, Int.reduceLE, Int.reduceGT, Int.reduceGE, h24, h22, h23, h5, h3, hb0, hrow, Nat.zero_add, hrn, hp0n, hw, e]; rfl))) | (refine ⟨fun h => Bool.noConfusion (show true = false from h), fun b hb => ?_, fun h => Bool.noConfusion (show false = true from h)⟩; have hb' := eq_of_beq hb; subst hb'; first | rfl | exact List.getElem?_append_left (by simp) | exact List.getElem?_set_ne (by omega) | (rw [List.getElem?_append_left (by simp), List.getElem?_set_ne (by omega)])))); (first | (fail_if_success (show Bel _ _)) | (focus first | exact .val _ | (simp [oneOf, Bel_iff_tup, Bel_iff_agg, Bel_iff_rsl, Bel_iff_fn, Bel_iff_rptr, Bel_val]; done)))) | refine thenQ_n ?_ | refine thenQ_r ?_ | refine thenQ_e ?_ | refine blockQ_n ?_ | refine blockQ_r ?_ | refine blockQ_e ?_ | (apply blockQ_o; (exact rfl)) | refine Awp.seq ?_ | refine Awp.skip ?_ | refine Awp.block ?_ | refine reg (fun s => s == 7) ?_ | (apply drw mixed (fun s => s == 7) ⟨fun i => i == 12 || i == 13 || i == 17 || i == 18 || i == 19, fun i => i == 3 || i == 5 || i == 9 || i == 11, fun b => b == H'.length⟩; (kernel_rfl)) | refine fin ?_ | refine Awp.ret ?_ | refine Awp.exit ?_ | ((first | (apply off; (exact rfl)) | apply condF); (first | (focus (simp only [go_sem, ↓reduceIte, Nat.reduceEqDiff, Nat.reduceBEq, Nat.reduceAdd, Nat.reduceLeDiff, Nat.reduceMul, Nat.reduceLT, Int.reduceToNat, reduceCtorEq, Int.reduceBEq, Int.reduceBNe, Int.reduceLT, Int.reduceLE, Int.reduceGT, Int.reduceGE, h24, h22, h23, h5, h3, hb0, hrow, Nat.zero_add, hrn, hp0n, hw] <;> rfl)) | exact rfl)))
      have st := hI.step ha rfl hp0n (D := H' ++ [AObj.cells [[iv (p0 : Int), iv olo, iv ohi, iv lim, iv llo, iv lhi, iv least, iv delay]] 37]) (by simp) (fun j h1 _ => List.getElem?_append_left h1)
      rw [hk0] at st
      refine ⟨i + 1, ⟨by omega, ?_, ?_, ?_, ?_, ?_, _, _, st⟩, by omega⟩
      · simp only [go_sem, ↓reduceIte, Nat.reduceEqDiff, Nat.reduceBEq, Nat.reduceAdd, Nat.reduceLeDiff, Nat.reduceMul, Nat.reduceLT, Int.reduceToNat, reduceCtorEq, Int.reduceBEq, Int.reduceBNe, Int.reduceLT, Int.reduceLE, Int.reduceGT, Int.reduceGE]
      · simp only [go_sem, ↓reduceIte, Nat.reduceEqDiff, Nat.reduceBEq, Nat.reduceAdd, Nat.reduceLeDiff, Nat.reduceMul, Nat.reduceLT, Int.reduceToNat, reduceCtorEq, Int.reduceBEq, Int.reduceBNe, Int.reduceLT, Int.reduceLE, Int.reduceGT, Int.reduceGE, h22]
      · simp only [go_sem, ↓reduceIte, Nat.reduceEqDiff, Nat.reduceBEq, Nat.reduceAdd, Nat.reduceLeDiff, Nat.reduceMul, Nat.reduceLT, Int.reduceToNat, reduceCtorEq, Int.reduceBEq, Int.reduceBNe, Int.reduceLT, Int.reduceLE, Int.reduceGT, Int.reduceGE, h23]
      · simp only [go_sem, ↓reduceIte, Nat.reduceEqDiff, Nat.reduceBEq, Nat.reduceAdd, Nat.reduceLeDiff, Nat.reduceMul, Nat.reduceLT, Int.reduceToNat, reduceCtorEq, Int.reduceBEq, Int.reduceBNe, Int.reduceLT, Int.reduceLE, Int.reduceGT, Int.reduceGE, h5]
      · simp only [go_sem, ↓reduceIte, Nat.reduceEqDiff, Nat.reduceBEq, Nat.reduceAdd, Nat.reduceLeDiff, Nat.reduceMul, Nat.reduceLT, Int.reduceToNat, reduceCtorEq, Int.reduceBEq, Int.reduceBNe, Int.reduceLT, Int.reduceLE, Int.reduceGT, Int.reduceGE, h3]
    · obtain ⟨hrow, hf1, hf2, hblk⟩ := hI.own p0 hp0n hk0
      have hC := held hblk
      have hki : (ints (kids l p0 i)).length = (kids l p0 i).length := ints_len _
      have hpos : 0 < (kids l p0 i).length := by
        rcases Nat.eq_zero_or_pos (kids l p0 i).length with h | h
        · exact absurd (List.eq_nil_of_length_eq_zero h) hk0
        · exact h
      have hle : (kids l p0 i).length ≤ i := kids_le
      have hb2 : ∀ x blk, ((H' ++ [x]).set (f p0) .dead ++ [blk])[H.length]? = some (.cells rows 42) := fun x blk => by
        rw [List.getElem?_append_left (by simp; omega), List.getElem?_set_ne (by omega), List.getElem?_append_left hlen]
        exact hI.row
      have hall : (ints (kids l p0 i)).all (fun e => e.length == 1) = true := by simp [ints]
      have hby : ((kids l p0 i).length + 1) * 8 ≤ 140737488355328 := by omega
      have htk : (ints (kids l p0 i)).take (kids l p0 i).length = ints (kids l p0 i) := List.take_of_length_le (by omega)
      have hkk := Nat.le_refl (kids l p0 i).length
      repeat' ((fail_if_success (apply stopR (id := 8))); (fail_if_success (apply stopS (id := 8))); first | refine spD (fun _ => ?_) (fun _ => ?_) | refine spF (fun _ => ?_) (fun _ => ?_) | (apply gT; (exact rfl)) | (apply off; (exact rfl); (exact rfl)) | (apply condT; (exact rfl)) | (apply condF; (exact rfl)) | ((first | (apply stp0; (exact rfl); (exact rfl)) | (apply stpN0; (exact rfl)) | apply gT | apply condT | ((first | apply bodyQ_d0 | apply bodyQ_d1 | apply bodyQ_d2 | apply bodyQ_d3 | apply bodyQ_d4); (exact .inr rfl); (rw [Try.results68]))); (first | (focus (simp only [go_sem, ↓reduceIte, Nat.reduceEqDiff, Nat.reduceBEq, Nat.reduceAdd, Nat.reduceLeDiff, Nat.reduceMul, Nat.reduceLT, Int.reduceToNat, reduceCtorEq, Int.reduceBEq, Int.reduceBNe, Int.reduceLT, Int.reduceLE, Int.reduceGT, Int.reduceGE, h24, h22, h23, h5, h3, hdr, hdl] <;> rfl)) | exact rfl); (first | (fail_if_success (show okD _ _ _ _ _ _ _ _ _)) | (first | exact okT | exact okN | exact okE rfl)); (first | (fail_if_success (show Bel _ _)) | (focus first | exact .val _ | (simp [oneOf, Bel_iff_tup, Bel_iff_agg, Bel_iff_rsl, Bel_iff_fn, Bel_iff_rptr, Bel_val]; done)))) | refine thenQ_n ?_ | refine thenQ_r ?_ | refine thenQ_e ?_ | refine blockQ_n ?_ | refine blockQ_r ?_ | refine blockQ_e ?_ | (apply blockQ_o; (exact rfl)) | refine Awp.seq ?_ | refine Awp.skip ?_ | refine Awp.block ?_ | refine reg (fun s => s == 7) ?_ | (apply drwE mixed (fun s => s == 7); (kernel_rfl)) | refine fin ?_ | refine Awp.ret ?_ | refine Awp.exit ?_ | ((first | (apply off; (exact rfl)) | apply condF); (first | (focus (simp only [go_sem, ↓reduceIte, Nat.reduceEqDiff, Nat.reduceBEq, Nat.reduceAdd, Nat.reduceLeDiff, Nat.reduceMul, Nat.reduceLT, Int.reduceToNat, reduceCtorEq, Int.reduceBEq, Int.reduceBNe, Int.reduceLT, Int.reduceLE, Int.reduceGT, Int.reduceGE, h24, h22, h23, h5, h3, hdr, hdl] <;> rfl)) | exact rfl)))
      all_goals first | (exfalso; omega) | skip
      repeat' (first | refine spD (fun _ => ?_) (fun _ => ?_) | refine spF (fun _ => ?_) (fun _ => ?_) | (apply gT; (exact rfl)) | (apply off; (exact rfl); (exact rfl)) | (apply condT; (exact rfl)) | (apply condF; (exact rfl)) | ((first | (apply stp0; (exact rfl); (exact rfl)) | (apply stpN0; (exact rfl)) | apply gT | apply condT | ((first | apply bodyQ_d0 | apply bodyQ_d1 | apply bodyQ_d2 | apply bodyQ_d3 | apply bodyQ_d4); (exact .inr rfl); (rw [Try.results68]))); (first | (focus (simp only [go_sem, ↓reduceIte, Nat.reduceEqDiff, Nat.reduceBEq, Nat.reduceAdd, Nat.reduceLeDiff, Nat.reduceMul, Nat.reduceLT, Int.reduceToNat, reduceCtorEq, Int.reduceBEq, Int.reduceBNe, Int.reduceLT, Int.reduceLE, Int.reduceGT, Int.reduceGE, h24, h22, h23, h5, h3, hb0, hrow, Nat.zero_add, hrn, hp0n, hw, hC, hki, hpos, hall, hby, htk, hkk, hb2] <;> rfl)) | exact rfl); (first | (fail_if_success (show okD _ _ _ _ _ _ _ _ _)) | (first | exact trivial | exact ⟨fun _ => rfl, fun _ _ => rfl, fun h => Bool.noConfusion (show false = true from h)⟩ | (refine ⟨fun _ => rfl, fun _ _ => rfl, fun _ H2 hk => ?_⟩; have e := (hk (H'.length) (beq_self_eq_true _)).trans (get_new H' _); unfold PerfTo; simp only [callOf]; (focus first | (simp only [go_sem, ↓reduceIte, Nat.reduceEqDiff, Nat.reduceBEq, Nat.reduceAdd, Nat.reduceLeDiff, Nat.reduceMul, Nat.reduceLT, Int.reduceToNat, reduceCtorEq, Int.reduceBEq, Int.reduceBNe, Int.reduceLT, Int.reduceLE, Int.reduceGT, Int.reduceGE, h24, h22, h23, h5, h3, hb0, hrow, Nat.zero_add, hrn, hp0n, hw, hC, hki, hpos, hall, hby, htk, hkk, hb2, e]; done) | (simp only [go_sem, ↓reduceIte, Nat.reduceEqDiff, Nat.reduceBEq, Nat.reduceAdd, Nat.reduceLeDiff, Nat.reduceMul, Nat.reduceLT, Int.reduceToNat, reduceCtorEq, Int.reduceBEq, Int.reduceBNe, Int.reduceLT, Int.reduceLE, Int.reduceGT, Int.reduceGE, h24, h22, h23, h5, h3, hb0, hrow, Nat.zero_add, hrn, hp0n, hw, hC, hki, hpos, hall, hby, htk, hkk, hb2, e]; rfl))) | (refine ⟨fun h => Bool.noConfusion (show true = false from h), fun b hb => ?_, fun h => Bool.noConfusion (show false = true from h)⟩; have hb' := eq_of_beq hb; subst hb'; first | rfl | exact List.getElem?_append_left (by simp) | exact List.getElem?_set_ne (by omega) | (rw [List.getElem?_append_left (by simp), List.getElem?_set_ne (by omega)])))); (first | (fail_if_success (show Bel _ _)) | (focus first | exact .val _ | (simp [oneOf, Bel_iff_tup, Bel_iff_agg, Bel_iff_rsl, Bel_iff_fn, Bel_iff_rptr, Bel_val]; done)))) | refine thenQ_n ?_ | refine thenQ_r ?_ | refine thenQ_e ?_ | refine blockQ_n ?_ | refine blockQ_r ?_ | refine blockQ_e ?_ | (apply blockQ_o; (exact rfl)) | refine Awp.seq ?_ | refine Awp.skip ?_ | refine Awp.block ?_ | refine reg (fun s => s == 7) ?_ | (apply drw mixed (fun s => s == 7) ⟨fun i => i == 12 || i == 13 || i == 17 || i == 18 || i == 19, fun i => i == 3 || i == 5 || i == 9 || i == 11, fun b => b == H'.length⟩; (kernel_rfl)) | refine fin ?_ | refine Awp.ret ?_ | refine Awp.exit ?_ | ((first | (apply off; (exact rfl)) | apply condF); (first | (focus (simp only [go_sem, ↓reduceIte, Nat.reduceEqDiff, Nat.reduceBEq, Nat.reduceAdd, Nat.reduceLeDiff, Nat.reduceMul, Nat.reduceLT, Int.reduceToNat, reduceCtorEq, Int.reduceBEq, Int.reduceBNe, Int.reduceLT, Int.reduceLE, Int.reduceGT, Int.reduceGE, h24, h22, h23, h5, h3, hb0, hrow, Nat.zero_add, hrn, hp0n, hw, hC, hki, hpos, hall, hby, htk, hkk, hb2] <;> rfl)) | exact rfl)))
      have st := hI.step ha rfl hp0n (D := (H' ++ [AObj.cells [[iv (p0 : Int), iv olo, iv ohi, iv lim, iv llo, iv lhi, iv least, iv delay]] 37]).set (f p0) .dead) (by simp)
        (fun j h1 h2 => by rw [List.getElem?_set_ne (fun e => (h2.elim (fun h => hk0 h) (fun h => h e.symm))), List.getElem?_append_left h1])
      have happ : ints (kids l p0 i ++ [((i + 1 : Nat) : Int)]) = ints (kids l p0 i) ++ [[iv ((i + 1 : Nat) : Int)]] := by simp [ints]
      rw [happ, List.length_set] at st
      refine ⟨i + 1, ⟨by omega, ?_, ?_, ?_, ?_, ?_, _, _, st⟩, by omega⟩
      · simp only [go_sem, ↓reduceIte, Nat.reduceEqDiff, Nat.reduceBEq, Nat.reduceAdd, Nat.reduceLeDiff, Nat.reduceMul, Nat.reduceLT, Int.reduceToNat, reduceCtorEq, Int.reduceBEq, Int.reduceBNe, Int.reduceLT, Int.reduceLE, Int.reduceGT, Int.reduceGE]
      · simp only [go_sem, ↓reduceIte, Nat.reduceEqDiff, Nat.reduceBEq, Nat.reduceAdd, Nat.reduceLeDiff, Nat.reduceMul, Nat.reduceLT, Int.reduceToNat, reduceCtorEq, Int.reduceBEq, Int.reduceBNe, Int.reduceLT, Int.reduceLE, Int.reduceGT, Int.reduceGE, h22]
      · simp only [go_sem, ↓reduceIte, Nat.reduceEqDiff, Nat.reduceBEq, Nat.reduceAdd, Nat.reduceLeDiff, Nat.reduceMul, Nat.reduceLT, Int.reduceToNat, reduceCtorEq, Int.reduceBEq, Int.reduceBNe, Int.reduceLT, Int.reduceLE, Int.reduceGT, Int.reduceGE, h23]
      · simp only [go_sem, ↓reduceIte, Nat.reduceEqDiff, Nat.reduceBEq, Nat.reduceAdd, Nat.reduceLeDiff, Nat.reduceMul, Nat.reduceLT, Int.reduceToNat, reduceCtorEq, Int.reduceBEq, Int.reduceBNe, Int.reduceLT, Int.reduceLE, Int.reduceGT, Int.reduceGE, h5]
      · simp only [go_sem, ↓reduceIte, Nat.reduceEqDiff, Nat.reduceBEq, Nat.reduceAdd, Nat.reduceLeDiff, Nat.reduceMul, Nat.reduceLT, Int.reduceToNat, reduceCtorEq, Int.reduceBEq, Int.reduceBNe, Int.reduceLT, Int.reduceLE, Int.reduceGT, Int.reduceGE, h3]
  · have hil : i = l.length - 1 := by omega
    subst hil
    repeat' (first | refine spD (fun _ => ?_) (fun _ => ?_) | refine spF (fun _ => ?_) (fun _ => ?_) | (apply gT; (exact rfl)) | (apply off; (exact rfl); (exact rfl)) | (apply condT; (exact rfl)) | (apply condF; (exact rfl)) | ((first | (apply stp0; (exact rfl); (exact rfl)) | (apply stpN0; (exact rfl)) | apply gT | apply condT | ((first | apply bodyQ_d0 | apply bodyQ_d1 | apply bodyQ_d2 | apply bodyQ_d3 | apply bodyQ_d4); (exact .inr rfl); (rw [Try.results68]))); (first | (focus (simp only [go_sem, ↓reduceIte, Nat.reduceEqDiff, Nat.reduceBEq, Nat.reduceAdd, Nat.reduceLeDiff, Nat.reduceMul, Nat.reduceLT, Int.reduceToNat, reduceCtorEq, Int.reduceBEq, Int.reduceBNe, Int.reduceLT, Int.reduceLE, Int.reduceGT, Int.reduceGE, h24, h22, h23, h5, h3] <;> rfl)) | exact rfl); (first | (fail_if_success (show okD _ _ _ _ _ _ _ _ _)) | (first | exact okT | exact okN | exact okE rfl)); (first | (fail_if_success (show Bel _ _)) | (focus first | exact .val _ | (simp [oneOf, Bel_iff_tup, Bel_iff_agg, Bel_iff_rsl, Bel_iff_fn, Bel_iff_rptr, Bel_val]; done)))) | refine thenQ_n ?_ | refine thenQ_r ?_ | refine thenQ_e ?_ | refine blockQ_n ?_ | refine blockQ_r ?_ | refine blockQ_e ?_ | (apply blockQ_o; (exact rfl)) | refine Awp.seq ?_ | refine Awp.skip ?_ | refine Awp.block ?_ | refine reg (fun s => s == 7) ?_ | (apply drwE mixed (fun s => s == 7); (kernel_rfl)) | refine fin ?_ | refine Awp.ret ?_ | refine Awp.exit ?_ | ((first | (apply off; (exact rfl)) | apply condF); (first | (focus (simp only [go_sem, ↓reduceIte, Nat.reduceEqDiff, Nat.reduceBEq, Nat.reduceAdd, Nat.reduceLeDiff, Nat.reduceMul, Nat.reduceLT, Int.reduceToNat, reduceCtorEq, Int.reduceBEq, Int.reduceBNe, Int.reduceLT, Int.reduceLE, Int.reduceGT, Int.reduceGE, h24, h22, h23, h5, h3] <;> rfl)) | exact rfl)))
    all_goals first | (exfalso; omega) | skip
    refine bodyQ_mk (vs := [.rptr [iv s.lo, iv s.hi, .rsl (l.map Nd.cs) ex, .msl H.length 0 l.length] 0, iv 0]) (.inr rfl) ?_ (openEnd (c := ⟨s, l, ex⟩) hI) ⟨rfl, rfl⟩
    · (rw [Try.results68]; first | (simp only [go_sem, ↓reduceIte, Nat.reduceEqDiff, Nat.reduceBEq, Nat.reduceAdd, Nat.reduceLeDiff, Nat.reduceMul, Nat.reduceLT, Int.reduceToNat, reduceCtorEq, Int.reduceBEq, Int.reduceBNe, Int.reduceLT, Int.reduceLE, Int.reduceGT, Int.reduceGE, h5]; done) | (simp only [go_sem, ↓reduceIte, Nat.reduceEqDiff, Nat.reduceBEq, Nat.reduceAdd, Nat.reduceLeDiff, Nat.reduceMul, Nat.reduceLT, Int.reduceToNat, reduceCtorEq, Int.reduceBEq, Int.reduceBNe, Int.reduceLT, Int.reduceLE, Int.reduceGT, Int.reduceGE, h5]; rfl))

end Go.Proofs.Ytphfdbmbdaninaa.Ab
