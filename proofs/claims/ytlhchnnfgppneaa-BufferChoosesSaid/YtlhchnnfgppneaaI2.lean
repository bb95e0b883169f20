/- slices.Insert of one number: the contract. -/
import Derived.Test.YtlhchnnfgppneaaI1
namespace Go.Proofs.Ytlhchnnfgppneaa.Ab
open Go Go.RowKit Go.Proofs
set_option linter.unusedSimpArgs false
set_option linter.unusedVariables false

variable {base : Nat} {w0 w w' : World} {g : Gh} {H : Hp}

theorem setCells_row {x o : Nat} {t : TypeId} {cur : Array Value} {vs : List Value} (h : w.heap[x]? = some (.cells cur t (0, 0))) (hb : o + vs.length ≤ cur.size) (h1 : ∀ v ∈ vs, v.oneCell' = true) :
    w.setCells x o vs = w.setRow x (setAt cur.toList o vs).toArray := by
  have e1 := run_storeCells_at Try.prog x o t vs 0 cur w h (by simpa using hb) h1
  have e2 := run_storeCells_cells (P := Try.prog) x o vs 0 w (fun j hj => by rw [cell_of_cells h, Array.getElem?_eq_getElem (by omega)]; rfl) (fun j _ => by simp [World.frozen?, h]) h1
  rw [e1] at e2
  simp only [Nat.add_zero, Result.ok.injEq, true_and] at e2
  exact e2.symm

theorem three_args {a b c : AV} {vs : Array Value} (hr : RCells g [a, b, c] vs) : ∃ v0 v1 v2, vs = #[v0, v1, v2] ∧ R g a v0 ∧ R g b v1 ∧ R g c v2 := by
  have hs := hr.size
  match vs, hs, hr with
  | ⟨[v0, v1, v2]⟩, _, hr => exact ⟨v0, v1, v2, rfl, hr.cell 0 _ _ rfl rfl, hr.cell 1 _ _ rfl rfl, hr.cell 2 _ _ rfl rfl⟩

theorem FRel.take1 {es : List (List AV)} {us : List Value} (h : FRel g 1 es us) (i : Nat) : FRel g 1 (es.take i) (us.take i) := by
  refine ⟨by simp [h.size], fun j e he => ?_, fun j e k c he hc => ?_⟩
  · rw [List.getElem?_take] at he
    split at he
    · exact h.len j e he
    · cases he
  · rw [List.getElem?_take] at he
    split at he
    · rename_i hj
      obtain ⟨v, hv, hR⟩ := h.cell j e k c he hc
      have hk : k < 1 := by rw [← h.len j e he]; exact (List.getElem?_eq_some_iff.1 hc).1
      refine ⟨v, ?_, hR⟩
      rw [List.getElem?_take, if_pos (by omega)]
      exact hv
    · cases he

theorem FRel.drop1 {es : List (List AV)} {us : List Value} (h : FRel g 1 es us) (i : Nat) : FRel g 1 (es.drop i) (us.drop i) := by
  refine ⟨by simp [h.size], fun j e he => ?_, fun j e k c he hc => ?_⟩
  · rw [List.getElem?_drop] at he
    exact h.len _ e he
  · rw [List.getElem?_drop] at he
    obtain ⟨v, hv, hR⟩ := h.cell _ e k c he hc
    refine ⟨v, ?_, hR⟩
    rw [List.getElem?_drop, ← hv]
    congr 1
    omega

theorem FRel.single {y : AV} {u : Value} (h : R g y u) : FRel g 1 [[y]] [u] := by
  refine ⟨rfl, fun j e he => ?_, fun j e k c he hc => ?_⟩
  · have : j = 0 := by have := (List.getElem?_eq_some_iff.1 he).1; simp at this; omega
    subst this; simp at he; subst he; rfl
  · have : j = 0 := by have := (List.getElem?_eq_some_iff.1 he).1; simp at this; omega
    subst this; simp at he; subst he
    have : k = 0 := by have := (List.getElem?_eq_some_iff.1 hc).1; simp at this; omega
    subst this; simp at hc; subst hc
    exact ⟨u, rfl, h⟩

theorem ins_list {cur cs : List Value} {u : Value} {n i cap : Nat} (hcs : cs = cur.take n) (hi : i < n) (hcur : cur.length = cap) (hr : n + 1 ≤ cap) : (setAt (setAt cur (i + 1) (cs.drop i)) i [u]).take (n + 1) = cs.take i ++ [u] ++ cs.drop i := by
  have hcl : cs.length = n := by rw [hcs, List.length_take]; omega
  have hdl : (cs.drop i).length = n - i := by rw [List.length_drop, hcl]
  have h1 : (setAt cur (i + 1) (cs.drop i)).length = cap := by rw [setAt_length _ _ _ (by omega), hcur]
  apply List.ext_getElem?
  intro j
  rw [List.getElem?_take, setAt_get _ _ _ _ (by simp; omega), setAt_get _ _ _ _ (by omega), hdl]
  simp only [List.length_singleton]
  by_cases h2 : j < i
  · rw [if_pos (by omega), if_pos h2, if_pos (by omega), List.append_assoc, List.getElem?_append_left (by rw [List.length_take]; omega), List.getElem?_take, if_pos h2, hcs, List.getElem?_take, if_pos (by omega)]
  · by_cases h3 : j = i
    · subst h3
      rw [if_pos (by omega), if_neg h2, if_pos (by omega), List.append_assoc, List.getElem?_append_right (by rw [List.length_take]; omega), List.length_take, hcl, show min j n = j by omega]
      simp
    · have hl : (cs.take i ++ [u]).length = i + 1 := by simp; omega
      by_cases h4 : j < n + 1
      · rw [if_pos h4, if_neg h2, if_neg (by omega), if_neg (by omega), if_pos (by omega), List.getElem?_append_right (by omega), hl]
      · rw [if_neg h4, List.getElem?_eq_none (by simp; omega)]

theorem insert_mid (H : Hp) (b n i vb : Nat) (es : List (List AV)) (y : AV) (hb : H[b]? = some (.cells es 2)) (hvb : H[vb]? = some (.cells [[y]] 2)) (hne : b ≠ vb) (hi : i < n) (hn : n ≤ es.length)
    (hall : es.all (fun e => e.length == 1) = true) (hcell : es.all (fun e => e.all AV.isCell) = true) (hyc : AV.isCell y = true) (hbig : (n + 1) * 8 ≤ 140737488355328) :
    CallsTo Try.prog 59 [.msl b 0 n, .val (.int .i64 i), .msl vb 0 1] H (.msl H.length 0 (n + 1)) (H.set b .dead ++ [.cells ((es.take n).take i ++ [[y]] ++ (es.take n).drop i) 2]) := by
  refine ⟨by kernel_rfl, fun base w0 g w vs S hr => ?_⟩
  obtain ⟨v0, v1, v2, rfl, h0, h1, h2⟩ := three_args hr
  obtain ⟨x, cap, cur, rfl, hx, hks, hlc, hcc, hcm, hw, hcur, hF⟩ := msl_flat S h0 hb (by omega) hall (by omega)
  obtain ⟨z, capv, curv, rfl, hz, hksv, hlcv, hccv, hcmv, hwv, hcurv, hFv⟩ := msl_flat (k := 1) S h2 hvb (by simp) (by simp) (by simp)
  cases h1
  have hcp : g.cp b = cap := by omega
  simp only [Nat.zero_mul, List.drop_zero, Nat.mul_one, Nat.one_mul, hcp] at hF hFv hcur hcurv ⊢
  have hxz : z ≠ x := fun e => hne (S.inj b vb x _ _ hb (by simp) hvb (by simp) hx (e ▸ hz))
  obtain ⟨u, hu, hRu⟩ := hFv.cell 0 [y] 0 y rfl rfl
  have hu2 : curv[0]? = some u := by
    have : (curv.toList.take 1)[0]? = some u := by simpa using hu
    rw [List.getElem?_take, if_pos (by omega)] at this
    simpa using this
  have h1u : u.oneCell' = true := hRu.isCell hyc
  obtain ⟨cs, hcsd⟩ : ∃ cs, cs = cur.toList.take n := ⟨_, rfl⟩
  rw [← hcsd] at hF
  have hcl : cs.length = n := by rw [hcsd, List.length_take, Array.length_toList]; omega
  have hcellT : (es.take n).all (fun e => e.all AV.isCell) = true := List.all_eq_true.2 fun e he => List.all_eq_true.1 hcell e (List.mem_of_mem_take he)
  have h1c := hF.one hcellT (by omega)
  have hcs : ∀ j v, cs[j]? = some v → w.cell? ⟨x, 0 + j, none⟩ = some v := fun j v hj => by
    rw [Nat.zero_add, cell_of_cells hw]
    rw [hcsd, List.getElem?_take] at hj
    split at hj
    · simpa using hj
    · cases hj
  have hy : w.cell? ⟨z, 0, none⟩ = some u := by rw [cell_of_cells hwv]; exact hu2
  have hdl : (cs.drop i).length = n - i := by rw [List.length_drop, hcl]
  have hFF : FRel g 1 ((es.take n).take i ++ [[y]] ++ (es.take n).drop i) (cs.take i ++ [u] ++ cs.drop i) := ((hF.take1 i).append (FRel.single hRu)).append (hF.drop1 i)
  have hlen : ((es.take n).take i ++ [[y]] ++ (es.take n).drop i).length = n + 1 := by simp; omega
  have h1d : ∀ v ∈ cs.drop i, v.oneCell' = true := fun v hv => h1c v (List.mem_of_mem_drop hv)
  by_cases hroom : n + 1 ≤ cap
  · have hC := insert_room x 0 n cap i z 0 capv cs u w hi hroom (by simp only [maxLen] at hcm; omega) hxz hcl hcs
      (fun j hj => by rw [Nat.zero_add, cell_of_cells hw, Array.getElem?_eq_getElem (by omega)]; rfl) (fun j _ => by simp [World.frozen?, hw]) hy h1c h1u 2 2 curv.size cur.size
      (by simp [World.shape?, hwv]) (by simp [World.shape?, hw]) (by omega) (by simp [World.frozen?, hwv]) (by simp [World.frozen?, hwv])
    refine (callsIn_wide.2 hC).mono fun e w' ⟨he, hw'⟩ => ?_
    simp only [Nat.zero_add] at hw'
    have hwd : w.drew.heap[x]? = some (.cells cur 2 (0, 0)) := hw
    have e1 : w.drew.setCells x (i + 1) (cs.drop i) = w.drew.setRow x (setAt cur.toList (i + 1) (cs.drop i)).toArray := setCells_row hwd (by rw [hdl]; omega) h1d
    have hw1 := setRow_heap w.drew x cur (setAt cur.toList (i + 1) (cs.drop i)).toArray 2 _ hwd
    have hsz1 : (setAt cur.toList (i + 1) (cs.drop i)).length = cap := by rw [setAt_length _ _ _ (by rw [hdl, Array.length_toList]; omega), Array.length_toList, hcur]
    have e2 : (w.drew.setRow x (setAt cur.toList (i + 1) (cs.drop i)).toArray).setCells x i [u] = (w.drew.setRow x (setAt cur.toList (i + 1) (cs.drop i)).toArray).setRow x (setAt (setAt cur.toList (i + 1) (cs.drop i)) i [u]).toArray := by
      have := setCells_row (vs := [u]) (o := i) hw1 (by simp only [List.size_toArray, hsz1, List.length_singleton]; omega) (by simpa using h1u)
      simpa using this
    rw [e1, e2] at hw'
    have hw2 := setRow_heap _ x _ (setAt (setAt cur.toList (i + 1) (cs.drop i)) i [u]).toArray 2 _ hw1
    rw [← hw'] at hw2
    have hgb : w.drew.grownBy w' (some x) := by
      rw [hw']
      refine ⟨rfl, rfl, rfl, by simp [World.setRow], fun k _ hk => ?_⟩
      rw [setRow_other _ x k _ (fun e => hk (by simp [e])), setRow_other _ x k _ (fun e => hk (by simp [e]))]
    have hT : (setAt (setAt cur.toList (i + 1) (cs.drop i)) i [u]).toArray.toList.take (((es.take n).take i ++ [[y]] ++ (es.take n).drop i).length * 1) = cs.take i ++ [u] ++ cs.drop i := by
      rw [hlen]
      simp only [Nat.mul_one]
      exact ins_list hcsd hi (by rw [Array.length_toList, hcur]) hroom
    obtain ⟨g', k1, k2, k3⟩ := own_moved S.drew hb (by simp) hx (w' := w') (t := 2) (cur := (setAt (setAt cur.toList (i + 1) (cs.drop i)) i [u]).toArray) (cp := cap) hFF
      (by simp only [List.size_toArray]; rw [setAt_length _ _ _ (by simp [hsz1]; omega), hsz1]; omega) (by rw [hlen]; exact hroom) hT hcm hgb hw2
    rw [hlen] at k3
    exact ⟨_, _, _, g', he, ⟨rfl, rfl⟩, k1, k2, k3⟩
  · have hcn : cap = n := by omega
    subst hcn
    have hC := insert_grow x 0 cap cap i z 0 capv cs u w hi (Nat.le_refl _) (by omega) hbig hcl hcs hy h1c h1u
    refine (callsIn_wide.2 hC).mono fun e w' ⟨he, hw'⟩ => ?_
    obtain ⟨G, hG⟩ : ∃ G, G = grownCap w (cap + 1) cap 2 := ⟨_, rfl⟩
    have hGn : cap + 1 ≤ G := by rw [hG]; exact grownCap_ge w _ _ _
    have hGm : G ≤ maxLen := by rw [hG]; exact grownCap_le_maxLen w (cap + 1) cap 2 (by simp only [maxLen]; omega)
    rw [← hG] at he hw'
    obtain ⟨ROW, hROW⟩ : ∃ ROW : Array Value, ROW = (cs.take i).toArray ++ Builtin.zeroCells (Value.int .i64 0).cells (cap + 1 - i) ++ Builtin.zeroCells (Value.int .i64 0).cells (G - (cap + 1)) := ⟨_, rfl⟩
    rw [← hROW] at hw'
    have hRs : ROW.size = G := by
      rw [hROW]
      simp [Builtin.zeroCells, Value.cells]
      omega
    have hRt : ROW.toList.take i = cs.take i := by
      rw [hROW]
      simp only [Array.toList_append, List.append_assoc]
      rw [List.take_append_of_le_length (by simp; omega)]
      rw [List.take_take, Nat.min_self]
    obtain ⟨w1, hw1⟩ : ∃ w1, w1 = w.alloc (.cells ROW 2) := ⟨_, rfl⟩
    rw [← hw1] at hw'
    have ha : w1.drew.heap[w.heap.size]? = some (.cells ROW 2 (0, 0)) := by rw [hw1]; exact heap_alloc_new w _
    have e1 : w1.drew.setCells w.heap.size i [u] = w1.drew.setRow w.heap.size (setAt ROW.toList i [u]).toArray := setCells_row ha (by simp only [List.length_singleton]; omega) (by simpa using h1u)
    have hb1 := setRow_heap w1.drew w.heap.size ROW (setAt ROW.toList i [u]).toArray 2 _ ha
    have hs1 : (setAt ROW.toList i [u]).length = G := by rw [setAt_length _ _ _ (by simp; omega), Array.length_toList, hRs]
    obtain ⟨w2, hw2⟩ : ∃ w2, w2 = w1.drew.setRow w.heap.size (setAt ROW.toList i [u]).toArray := ⟨_, rfl⟩
    rw [← hw2] at hb1
    have hb2 : w2.drew.heap[w.heap.size]? = some (.cells (setAt ROW.toList i [u]).toArray 2 (0, 0)) := hb1
    have e2 : w2.drew.setCells w.heap.size (i + 1) (cs.drop i) = w2.drew.setRow w.heap.size (setAt (setAt ROW.toList i [u]) (i + 1) (cs.drop i)).toArray := by
      have := setCells_row (vs := cs.drop i) (o := i + 1) hb2 (by simp only [List.size_toArray, hs1, hdl]; omega) h1d
      simpa using this
    rw [e1, ← hw2, e2] at hw'
    have hb3 := setRow_heap w2.drew w.heap.size _ (setAt (setAt ROW.toList i [u]) (i + 1) (cs.drop i)).toArray 2 _ hb2
    rw [← hw'] at hb3
    have hgb : w.grownBy w' none := by
      rw [hw', hw2, hw1]
      refine ⟨rfl, rfl, rfl, by simp [World.setRow], fun k hk _ => ?_⟩
      have hne : k ≠ w.heap.size := by omega
      rw [setRow_other _ _ k _ hne]
      show (World.setRow _ _ _).heap[k]? = _
      rw [setRow_other _ _ k _ hne]
      exact heap_alloc_old w _ k hk
    have S' := S.dead b
    have hlS : (H.set b AObj.dead).length = H.length := by simp
    have hT : (setAt (setAt ROW.toList i [u]) (i + 1) (cs.drop i)).toArray.toList.take (((es.take cap).take i ++ [[y]] ++ (es.take cap).drop i).length * 1) = cs.take i ++ [u] ++ cs.drop i := by
      rw [hlen]
      simp only [Nat.mul_one]
      apply List.ext_getElem?
      intro j
      rw [List.getElem?_take, setAt_get _ _ _ _ (by rw [hs1, hdl]; omega), setAt_get _ _ _ _ (by simp; omega), hdl]
      simp only [List.length_singleton]
      have hl : (cs.take i ++ [u]).length = i + 1 := by simp; omega
      by_cases h2 : j < i
      · have := congrArg (fun l => l[j]?) hRt
        simp only [List.getElem?_take, if_pos h2] at this
        rw [if_pos (by omega), if_pos (by omega), if_pos h2, List.append_assoc, List.getElem?_append_left (by rw [List.length_take]; omega), List.getElem?_take, if_pos h2, this]
      · by_cases h3 : j = i
        · subst h3
          rw [if_pos (by omega), if_pos (by omega), if_neg h2, if_pos (by omega), List.append_assoc, List.getElem?_append_right (by rw [List.length_take]; omega), List.length_take, hcl, show min j cap = j by omega]
          simp
        · by_cases h4 : j < cap + 1
          · rw [if_pos h4, if_neg (by omega), if_pos (by omega), List.getElem?_append_right (by omega), hl]
          · rw [if_neg h4, List.getElem?_eq_none (by simp; omega)]
    obtain ⟨g', k1, k2, k3⟩ := own_new S' (w' := w') (t := 2) (cur := (setAt (setAt ROW.toList i [u]) (i + 1) (cs.drop i)).toArray) (cp := G) hFF
      (by simp only [List.size_toArray]; rw [setAt_length _ _ _ (by rw [hs1, hdl]; omega), hs1]; omega) (by rw [hlen]; exact hGn) hT hGm hgb hb3
    rw [hlen, hlS] at k3
    exact ⟨_, _, _, g', he, ⟨rfl, rfl⟩, k1, k2, k3⟩

end Go.Proofs.Ytlhchnnfgppneaa.Ab
