/- slices.Insert of one number ahead of the end, where there is no room. slices.Insert of one number: the contract. Buffers: slices.Insert at the end; the example runs. maps.Clone: what it does to a world, and its contract. Buffers: records and their importance. A region that draws its order, by an invariant over what has been done. -/
import Derived.Test.YtlhchnnfgppneaaYF
import Derived.Lib.AppendZerosOnto
import Derived.Laws.NewBlocks
import Derived.WalkSpells
import Derived.Test.YtlhchnnfgppneaaYD
namespace Go.Proofs.Ytlhchnnfgppneaa.Ab
open Go Go.RowKit Go.Proofs Go.Lib
set_option linter.unusedSimpArgs false
set_option linter.unusedVariables false

set_option maxHeartbeats 4000000 in
set_option maxRecDepth 100000 in
theorem insert_grow (b off n c i vb voff vc : Nat) (cs : List Value) (y : Value) (w : World) (hi : i < n) (hnc : n ≤ c) (hroom : c < n + 1) (hbig : (n + 1) * 8 ≤ 140737488355328) (hcl : cs.length = n)
    (hcs : ∀ j v, cs[j]? = some v → w.cell? ⟨b, off + j, none⟩ = some v) (hy : w.cell? ⟨vb, voff, none⟩ = some y) (h1c : ∀ v ∈ cs, v.oneCell' = true) (h1y : y.oneCell' = true) :
    Calls Try.prog 59 #[.slice (some ⟨b, off, none⟩) n c, .int .i64 i, .slice (some ⟨vb, voff, none⟩) 1 vc] w fun e w' =>
      e = .returned (.slice (some ⟨w.heap.size, 0, none⟩) (n + 1) (grownCap w (n + 1) c 2)) ∧
      w' = (((w.alloc (.cells ((cs.take i).toArray ++ Builtin.zeroCells (Value.int .i64 0).cells (n + 1 - i) ++ Builtin.zeroCells (Value.int .i64 0).cells (grownCap w (n + 1) c 2 - (n + 1))) 2)).drew.setCells w.heap.size i [y]).drew).setCells w.heap.size (i + 1) (cs.drop i) := by
  have a46 := i_ag46; have z46 := i_sz46; have v46 := i_zv46; have a2 := i_ag2; have z2 := i_sz2; have v2 := i_zv2; have a3 := i_ag3; have z3 := i_sz3; have v3 := i_zv3; have a4 := i_ag4; have z4 := i_sz4; have v4 := i_zv4
  have t46 := i_at46; have t2 := i_at2; have t3 := i_at3; have t4 := i_at4
  have u46 := run_underlying i_at46; have u2 := run_underlying i_at2; have u3 := run_underlying i_at3; have u4 := run_underlying i_at4
  have mixed : Try.prog.follows .mixedOrders = true := by kernel_rfl
  obtain ⟨i0, hi0, hz0, hzs, hzb⟩ := info_parts i_inf2
  have hz2 : ¬ ((i : Int) = (n : Int)) := by omega
  have hz3 : (c : Int) < (n : Int) + 1 := by omega
  have hsz : (Try.prog.info? 2).map (·.size) = some 1 := by rw [hi0]; simp [hzs]
  have hbw : b < w.heap.size := block_lt_of_cell (hcs 0 _ (List.getElem?_eq_getElem (by omega)))
  have hvw : vb < w.heap.size := block_lt_of_cell hy
  have hkk : (n : Int) + 1 - (i : Int) = ((n + 1 - i : Nat) : Int) := by omega
  have hik : i + (n + 1 - i) = n + 1 := by omega
  have hold : (Builtin.firstCells i0.size i (.slice (some ⟨b, off, none⟩) i c)).run Try.prog w.drew = .ok (cs.take i).toArray w.drew := by
    rw [hzs]
    exact run_firstCells_some w.drew 1 i ⟨b, off, none⟩ i c (cs.take i) (by rw [List.length_take]; omega) (fun j v hj => by
      rw [Addr.add_lit]
      rw [List.getElem?_take] at hj
      split at hj
      · exact hcs j v hj
      · cases hj)
  have hrz : ∀ ty, (Builtin.append_ #[46, 3] ty #[.slice (some ⟨b, off, none⟩) i c, .int .i64 ((n : Int) + 1 - (i : Int))]).run Try.prog w =
      .ok (.slice (some ⟨w.heap.size, 0, none⟩) (n + 1) (grownCap w (n + 1) c 2)) (w.drew.alloc (.cells ((cs.take i).toArray ++ Builtin.zeroCells (Value.int .i64 0).cells (n + 1 - i) ++ Builtin.zeroCells (Value.int .i64 0).cells (grownCap w (n + 1) c 2 - (n + 1))) 2)) := fun ty => by
    have h := Lib.run_append_grow_zeros w 46 3 ty 2 i0 _ .i64 .i64 i_at46 i_at3 hi0 hz0 (some ⟨b, off, none⟩) i c (cs.take i) hold (n + 1 - i) (by omega) (by omega) (by omega) (by omega) (by rw [hzb]; omega) (by rw [hzb, hik]; exact growslice_fits hroom hbig)
    rw [hik] at h
    rw [hkk]
    exact h
  obtain ⟨G, hG⟩ : ∃ G, G = grownCap w (n + 1) c 2 := ⟨_, rfl⟩
  obtain ⟨ROW, hROW⟩ : ∃ ROW : Array Value, ROW = (cs.take i).toArray ++ Builtin.zeroCells (Value.int .i64 0).cells (n + 1 - i) ++ Builtin.zeroCells (Value.int .i64 0).cells (G - (n + 1)) := ⟨_, rfl⟩
  rw [← hG] at hrz ⊢
  rw [← hROW] at hrz ⊢
  have hRl : n + 1 ≤ ROW.size := by
    rw [hROW]
    simp [Builtin.zeroCells, Value.cells]
    omega
  obtain ⟨W1, hW1⟩ : ∃ W1, W1 = w.drew.alloc (.cells ROW 2) := ⟨_, rfl⟩
  rw [← hW1] at hrz
  have hN : ∀ j, j < n + 1 → (W1.cell? ⟨w.heap.size, j, none⟩).isSome = true := fun j hj => by
    rw [hW1, World.cell?_alloc_at (w := w.drew) ROW _ w.heap.size j rfl, Array.getElem?_eq_getElem (by omega)]; rfl
  have hNf : ∀ j, W1.frozen? ⟨w.heap.size, j, none⟩ = false := fun j => by rw [hW1]; exact World.frozen?_alloc_at (w := w.drew) ROW _ w.heap.size j rfl
  have hOb : ∀ j v, w.cell? ⟨b, j, none⟩ = some v → W1.cell? ⟨b, j, none⟩ = some v := fun j v h => by rw [hW1, World.cell?_alloc_past (w := w.drew) _ b j hbw]; exact h
  have hOv : ∀ j v, w.cell? ⟨vb, j, none⟩ = some v → W1.cell? ⟨vb, j, none⟩ = some v := fun j v h => by rw [hW1, World.cell?_alloc_past (w := w.drew) _ vb j hvw]; exact h
  have hcpA : ∀ (W : World), (∀ x, W.cell? x = W1.cell? x) → (∀ x, W.frozen? x = W1.frozen? x) → ∀ ty dc, (Builtin.copy_ #[46, 46] ty #[.slice (some ⟨w.heap.size, i, none⟩) (n + 1 - i) dc, .slice (some ⟨vb, voff, none⟩) 1 vc]).run Try.prog W = .ok (goInt ([y] : List Value).length) (W.setCells w.heap.size i [y]) := fun W hWc hWf ty dc =>
    run_copy_cells W _ _ ty 2 w.heap.size i (n + 1 - i) dc ⟨vb, voff, none⟩ 1 vc [y] i_at46 hsz (by simp only [List.length_singleton, Nat.min_def]; split <;> omega)
      (fun j v hj => by
        have hj0 : j = 0 := by have := (List.getElem?_eq_some_iff.1 hj).1; simp at this; omega
        subst hj0
        simp at hj
        subst hj
        rw [Addr.add_lit, hWc]; exact hOv _ _ hy)
      (fun j hj => by rw [hWc]; exact hN _ (by simp at hj; omega)) (fun j hj => by rw [hWf]; exact hNf _) (by simpa using h1y)
  have hGn : n + 1 ≤ G := by rw [hG]; exact grownCap_ge w _ _ _
  have hG63 : G ≤ 9223372036854775807 := by
    have := grownCap_le_maxLen w (n + 1) c 2 (by unfold maxLen; omega)
    rw [← hG] at this
    unfold maxLen at this
    omega
  have hGi : ¬ (G = i) := by omega
  have hGim : ¬ (G = i + 1) := by omega
  have hci : ¬ (c = i) := by omega
  have hbN : b ≠ w.heap.size := by omega
  have hdl : (cs.drop i).length = n - i := by rw [List.length_drop, hcl]
  have hcpB : ∀ (W : World), (∀ x, W.cell? x = (W1.setCells w.heap.size i [y]).cell? x) → (∀ x, W.frozen? x = (W1.setCells w.heap.size i [y]).frozen? x) → ∀ ty dc sc, (Builtin.copy_ #[46, 46] ty #[.slice (some ⟨w.heap.size, i + 1, none⟩) (n - i) dc, .slice (some ⟨b, off + i, none⟩) (n - i) sc]).run Try.prog W = .ok (goInt (cs.drop i).length) (W.setCells w.heap.size (i + 1) (cs.drop i)) := fun W hWc hWf ty dc sc =>
    run_copy_cells W _ _ ty 2 w.heap.size (i + 1) (n - i) dc ⟨b, off + i, none⟩ (n - i) sc (cs.drop i) i_at46 hsz (by rw [hdl]; simp only [Nat.min_def]; split <;> omega)
      (fun j v hj => by
        rw [Addr.add_lit, hWc, World.cell?_setCells_out _ _ _ _ _ (fun h _ => absurd h hbN), Nat.add_assoc]
        exact hOb _ v (hcs (i + j) v (by rwa [List.getElem?_drop] at hj)))
      (fun j hj => by rw [hWc]; exact some_setCells _ _ _ _ (fun t ht => hN _ (by simp at ht; omega)) _ (hN _ (by omega)))
      (fun j hj => by rw [hWf, World.frozen?_setCells]; exact hNf _) (fun v hv => h1c v (List.mem_of_mem_drop hv))
  subst hW1
  have hE1 : ∀ x, ((w.alloc (.cells ROW 2)).drew).cell? x = (w.drew.alloc (.cells ROW 2)).cell? x := fun x => rfl
  have hE2 : ∀ x, ((w.alloc (.cells ROW 2)).drew).frozen? x = (w.drew.alloc (.cells ROW 2)).frozen? x := fun x => rfl
  have hF1 : ∀ x, (((w.alloc (.cells ROW 2)).drew.setCells w.heap.size i [y]).drew).cell? x = ((w.drew.alloc (.cells ROW 2)).setCells w.heap.size i [y]).cell? x := fun x => rfl
  have hF2 : ∀ x, (((w.alloc (.cells ROW 2)).drew.setCells w.heap.size i [y]).drew).frozen? x = ((w.drew.alloc (.cells ROW 2)).setCells w.heap.size i [y]).frozen? x := fun x => rfl
  have hw1 : IntKind.i64.wrap ((i : Int) + 1) = (i : Int) + 1 := by rw [IntKind.wrap_i64]; omega
  have hb1 : (0 : Int) ≤ (i : Int) + 1 := by omega
  have hin : i ≤ n := by omega
  have htn : ((i : Int) + 1).toNat = i + 1 := by omega
  have hb3 : (i : Int) ≤ (n : Int) := by omega
  clear hkk hik hold hROW hG hRl
  go_enter Try.func59, Try.ntmps59
  go_wp2_with (first
    | (at_builtin; refine Lib.wpList_append_run _ rfl _ _ _ _ rfl _ _ rfl rfl _ _ (hrz _) ?_)
    | (at_builtin; refine copy_step _ rfl _ _ 46 46 rfl _ _ rfl rfl (hcpA _ hE1 hE2 _ _) ?_)
    | (at_builtin; refine copy_step _ rfl _ _ 46 46 rfl _ _ rfl rfl (hcpB _ (fun _ => rfl) (fun _ => rfl) _ _ _) ?_))
  go_region_law_o (refine copy_any rfl _ _ 46 46 rfl (.slice (some ⟨w.heap.size, i + 1, none⟩) (n - i) (G - (i + 1))) (.slice (some ⟨b, off + i, none⟩) (n - i) (c - i)) (by simp [Act.eval, Act.put]) (by simp [Act.eval, Act.put]) (hcpB _ hF1 hF2 3 (G - (i + 1)) (c - i)) ?_)
  go_wp2
  go_ret
  exact ⟨rfl, rfl⟩

end Go.Proofs.Ytlhchnnfgppneaa.Ab
namespace Go.Proofs.Ytlhchnnfgppneaa.Ab
open Go Go.RowKit Go.Proofs
set_option linter.unusedSimpArgs false
set_option linter.unusedVariables false

variable {base : Nat} {w0 w w' : World} {g : Gh} {H : Hp}

theorem setCells_row {x o : Nat} {t : TypeId} {cur : Array Value} {vs : List Value} (h : w.heap[x]? = some (.cells cur t (0, 0))) (hb : o + vs.length ≤ cur.size) (h1 : ∀ v ∈ vs, v.oneCell' = true) :
    w.setCells x o vs = w.setRow x (setAt cur.toList o vs).toArray := by
  have e1 := run_storeCells_at Try.prog x o t vs 0 cur w h (by simpa using hb) h1
  have e2 := run_storeCells_cells (P := Try.prog) x o vs 0 w (fun j hj => by rw [cell_of_cells h, Array.getElem?_eq_getElem (by omega)]; rfl) (fun j _ => by simp [World.frozen?, h]) h1
  rw [e1] at e2
  simp only [Nat.add_zero, Result.ok.injEq, true_and] at e2
  exact e2.symm

theorem three_args {a b c : AV} {vs : Array Value} (hr : RCells g [a, b, c] vs) : ∃ v0 v1 v2, vs = #[v0, v1, v2] ∧ R g a v0 ∧ R g b v1 ∧ R g c v2 := by
  have hs := hr.size
  match vs, hs, hr with
  | ⟨[v0, v1, v2]⟩, _, hr => exact ⟨v0, v1, v2, rfl, hr.cell 0 _ _ rfl rfl, hr.cell 1 _ _ rfl rfl, hr.cell 2 _ _ rfl rfl⟩

theorem FRel.take1 {es : List (List AV)} {us : List Value} (h : FRel g 1 es us) (i : Nat) : FRel g 1 (es.take i) (us.take i) := by
  refine ⟨by simp [h.size], fun j e he => ?_, fun j e k c he hc => ?_⟩
  · rw [List.getElem?_take] at he
    split at he
    · exact h.len j e he
    · cases he
  · rw [List.getElem?_take] at he
    split at he
    · rename_i hj
      obtain ⟨v, hv, hR⟩ := h.cell j e k c he hc
      have hk : k < 1 := by rw [← h.len j e he]; exact (List.getElem?_eq_some_iff.1 hc).1
      refine ⟨v, ?_, hR⟩
      rw [List.getElem?_take, if_pos (by omega)]
      exact hv
    · cases he

theorem FRel.drop1 {es : List (List AV)} {us : List Value} (h : FRel g 1 es us) (i : Nat) : FRel g 1 (es.drop i) (us.drop i) := by
  refine ⟨by simp [h.size], fun j e he => ?_, fun j e k c he hc => ?_⟩
  · rw [List.getElem?_drop] at he
    exact h.len _ e he
  · rw [List.getElem?_drop] at he
    obtain ⟨v, hv, hR⟩ := h.cell _ e k c he hc
    refine ⟨v, ?_, hR⟩
    rw [List.getElem?_drop, ← hv]
    congr 1
    omega

theorem FRel.single {y : AV} {u : Value} (h : R g y u) : FRel g 1 [[y]] [u] := by
  refine ⟨rfl, fun j e he => ?_, fun j e k c he hc => ?_⟩
  · have : j = 0 := by have := (List.getElem?_eq_some_iff.1 he).1; simp at this; omega
    subst this; simp at he; subst he; rfl
  · have : j = 0 := by have := (List.getElem?_eq_some_iff.1 he).1; simp at this; omega
    subst this; simp at he; subst he
    have : k = 0 := by have := (List.getElem?_eq_some_iff.1 hc).1; simp at this; omega
    subst this; simp at hc; subst hc
    exact ⟨u, rfl, h⟩

theorem ins_list {cur cs : List Value} {u : Value} {n i cap : Nat} (hcs : cs = cur.take n) (hi : i < n) (hcur : cur.length = cap) (hr : n + 1 ≤ cap) : (setAt (setAt cur (i + 1) (cs.drop i)) i [u]).take (n + 1) = cs.take i ++ [u] ++ cs.drop i := by
  have hcl : cs.length = n := by rw [hcs, List.length_take]; omega
  have hdl : (cs.drop i).length = n - i := by rw [List.length_drop, hcl]
  have h1 : (setAt cur (i + 1) (cs.drop i)).length = cap := by rw [setAt_length _ _ _ (by omega), hcur]
  apply List.ext_getElem?
  intro j
  rw [List.getElem?_take, setAt_get _ _ _ _ (by simp; omega), setAt_get _ _ _ _ (by omega), hdl]
  simp only [List.length_singleton]
  by_cases h2 : j < i
  · rw [if_pos (by omega), if_pos h2, if_pos (by omega), List.append_assoc, List.getElem?_append_left (by rw [List.length_take]; omega), List.getElem?_take, if_pos h2, hcs, List.getElem?_take, if_pos (by omega)]
  · by_cases h3 : j = i
    · subst h3
      rw [if_pos (by omega), if_neg h2, if_pos (by omega), List.append_assoc, List.getElem?_append_right (by rw [List.length_take]; omega), List.length_take, hcl, show min j n = j by omega]
      simp
    · have hl : (cs.take i ++ [u]).length = i + 1 := by simp; omega
      by_cases h4 : j < n + 1
      · rw [if_pos h4, if_neg h2, if_neg (by omega), if_neg (by omega), if_pos (by omega), List.getElem?_append_right (by omega), hl]
      · rw [if_neg h4, List.getElem?_eq_none (by simp; omega)]

theorem insert_mid (H : Hp) (b n i vb : Nat) (es : List (List AV)) (y : AV) (hb : H[b]? = some (.cells es 2)) (hvb : H[vb]? = some (.cells [[y]] 2)) (hne : b ≠ vb) (hi : i < n) (hn : n ≤ es.length)
    (hall : es.all (fun e => e.length == 1) = true) (hcell : es.all (fun e => e.all AV.isCell) = true) (hyc : AV.isCell y = true) (hbig : (n + 1) * 8 ≤ 140737488355328) :
    CallsTo Try.prog 59 [.msl b 0 n, .val (.int .i64 i), .msl vb 0 1] H (.msl H.length 0 (n + 1)) (H.set b .dead ++ [.cells ((es.take n).take i ++ [[y]] ++ (es.take n).drop i) 2]) := by
  refine ⟨by kernel_rfl, fun base w0 g w vs S hr => ?_⟩
  obtain ⟨v0, v1, v2, rfl, h0, h1, h2⟩ := three_args hr
  obtain ⟨x, cap, cur, rfl, hx, hks, hlc, hcc, hcm, hw, hcur, hF⟩ := msl_flat S h0 hb (by omega) hall (by omega)
  obtain ⟨z, capv, curv, rfl, hz, hksv, hlcv, hccv, hcmv, hwv, hcurv, hFv⟩ := msl_flat (k := 1) S h2 hvb (by simp) (by simp) (by simp)
  cases h1
  have hcp : g.cp b = cap := by omega
  simp only [Nat.zero_mul, List.drop_zero, Nat.mul_one, Nat.one_mul, hcp] at hF hFv hcur hcurv ⊢
  have hxz : z ≠ x := fun e => hne (S.inj b vb x _ _ hb (by simp) hvb (by simp) hx (e ▸ hz))
  obtain ⟨u, hu, hRu⟩ := hFv.cell 0 [y] 0 y rfl rfl
  have hu2 : curv[0]? = some u := by
    have : (curv.toList.take 1)[0]? = some u := by simpa using hu
    rw [List.getElem?_take, if_pos (by omega)] at this
    simpa using this
  have h1u : u.oneCell' = true := hRu.isCell hyc
  obtain ⟨cs, hcsd⟩ : ∃ cs, cs = cur.toList.take n := ⟨_, rfl⟩
  rw [← hcsd] at hF
  have hcl : cs.length = n := by rw [hcsd, List.length_take, Array.length_toList]; omega
  have hcellT : (es.take n).all (fun e => e.all AV.isCell) = true := List.all_eq_true.2 fun e he => List.all_eq_true.1 hcell e (List.mem_of_mem_take he)
  have h1c := hF.one hcellT (by omega)
  have hcs : ∀ j v, cs[j]? = some v → w.cell? ⟨x, 0 + j, none⟩ = some v := fun j v hj => by
    rw [Nat.zero_add, cell_of_cells hw]
    rw [hcsd, List.getElem?_take] at hj
    split at hj
    · simpa using hj
    · cases hj
  have hy : w.cell? ⟨z, 0, none⟩ = some u := by rw [cell_of_cells hwv]; exact hu2
  have hdl : (cs.drop i).length = n - i := by rw [List.length_drop, hcl]
  have hFF : FRel g 1 ((es.take n).take i ++ [[y]] ++ (es.take n).drop i) (cs.take i ++ [u] ++ cs.drop i) := ((hF.take1 i).append (FRel.single hRu)).append (hF.drop1 i)
  have hlen : ((es.take n).take i ++ [[y]] ++ (es.take n).drop i).length = n + 1 := by simp; omega
  have h1d : ∀ v ∈ cs.drop i, v.oneCell' = true := fun v hv => h1c v (List.mem_of_mem_drop hv)
  by_cases hroom : n + 1 ≤ cap
  · have hC := insert_room x 0 n cap i z 0 capv cs u w hi hroom (by simp only [maxLen] at hcm; omega) hxz hcl hcs
      (fun j hj => by rw [Nat.zero_add, cell_of_cells hw, Array.getElem?_eq_getElem (by omega)]; rfl) (fun j _ => by simp [World.frozen?, hw]) hy h1c h1u 2 2 curv.size cur.size
      (by simp [World.shape?, hwv]) (by simp [World.shape?, hw]) (by omega) (by simp [World.frozen?, hwv]) (by simp [World.frozen?, hwv])
    refine (callsIn_wide.2 hC).mono fun e w' ⟨he, hw'⟩ => ?_
    simp only [Nat.zero_add] at hw'
    have hwd : w.drew.heap[x]? = some (.cells cur 2 (0, 0)) := hw
    have e1 : w.drew.setCells x (i + 1) (cs.drop i) = w.drew.setRow x (setAt cur.toList (i + 1) (cs.drop i)).toArray := setCells_row hwd (by rw [hdl]; omega) h1d
    have hw1 := setRow_heap w.drew x cur (setAt cur.toList (i + 1) (cs.drop i)).toArray 2 _ hwd
    have hsz1 : (setAt cur.toList (i + 1) (cs.drop i)).length = cap := by rw [setAt_length _ _ _ (by rw [hdl, Array.length_toList]; omega), Array.length_toList, hcur]
    have e2 : (w.drew.setRow x (setAt cur.toList (i + 1) (cs.drop i)).toArray).setCells x i [u] = (w.drew.setRow x (setAt cur.toList (i + 1) (cs.drop i)).toArray).setRow x (setAt (setAt cur.toList (i + 1) (cs.drop i)) i [u]).toArray := by
      have := setCells_row (vs := [u]) (o := i) hw1 (by simp only [List.size_toArray, hsz1, List.length_singleton]; omega) (by simpa using h1u)
      simpa using this
    rw [e1, e2] at hw'
    have hw2 := setRow_heap _ x _ (setAt (setAt cur.toList (i + 1) (cs.drop i)) i [u]).toArray 2 _ hw1
    rw [← hw'] at hw2
    have hgb : w.drew.grownBy w' (some x) := by
      rw [hw']
      refine ⟨rfl, rfl, rfl, by simp [World.setRow], fun k _ hk => ?_⟩
      rw [setRow_other _ x k _ (fun e => hk (by simp [e])), setRow_other _ x k _ (fun e => hk (by simp [e]))]
    have hT : (setAt (setAt cur.toList (i + 1) (cs.drop i)) i [u]).toArray.toList.take (((es.take n).take i ++ [[y]] ++ (es.take n).drop i).length * 1) = cs.take i ++ [u] ++ cs.drop i := by
      rw [hlen]
      simp only [Nat.mul_one]
      exact ins_list hcsd hi (by rw [Array.length_toList, hcur]) hroom
    obtain ⟨g', k1, k2, k3⟩ := own_moved S.drew hb (by simp) hx (w' := w') (t := 2) (cur := (setAt (setAt cur.toList (i + 1) (cs.drop i)) i [u]).toArray) (cp := cap) hFF
      (by simp only [List.size_toArray]; rw [setAt_length _ _ _ (by simp [hsz1]; omega), hsz1]; omega) (by rw [hlen]; exact hroom) hT hcm hgb hw2
    rw [hlen] at k3
    exact ⟨_, _, _, g', he, ⟨rfl, rfl⟩, k1, k2, k3⟩
  · have hcn : cap = n := by omega
    subst hcn
    have hC := insert_grow x 0 cap cap i z 0 capv cs u w hi (Nat.le_refl _) (by omega) hbig hcl hcs hy h1c h1u
    refine (callsIn_wide.2 hC).mono fun e w' ⟨he, hw'⟩ => ?_
    obtain ⟨G, hG⟩ : ∃ G, G = grownCap w (cap + 1) cap 2 := ⟨_, rfl⟩
    have hGn : cap + 1 ≤ G := by rw [hG]; exact grownCap_ge w _ _ _
    have hGm : G ≤ maxLen := by rw [hG]; exact grownCap_le_maxLen w (cap + 1) cap 2 (by simp only [maxLen]; omega)
    rw [← hG] at he hw'
    obtain ⟨ROW, hROW⟩ : ∃ ROW : Array Value, ROW = (cs.take i).toArray ++ Builtin.zeroCells (Value.int .i64 0).cells (cap + 1 - i) ++ Builtin.zeroCells (Value.int .i64 0).cells (G - (cap + 1)) := ⟨_, rfl⟩
    rw [← hROW] at hw'
    have hRs : ROW.size = G := by
      rw [hROW]
      simp [Builtin.zeroCells, Value.cells]
      omega
    have hRt : ROW.toList.take i = cs.take i := by
      rw [hROW]
      simp only [Array.toList_append, List.append_assoc]
      rw [List.take_append_of_le_length (by simp; omega)]
      rw [List.take_take, Nat.min_self]
    obtain ⟨w1, hw1⟩ : ∃ w1, w1 = w.alloc (.cells ROW 2) := ⟨_, rfl⟩
    rw [← hw1] at hw'
    have ha : w1.drew.heap[w.heap.size]? = some (.cells ROW 2 (0, 0)) := by rw [hw1]; exact heap_alloc_new w _
    have e1 : w1.drew.setCells w.heap.size i [u] = w1.drew.setRow w.heap.size (setAt ROW.toList i [u]).toArray := setCells_row ha (by simp only [List.length_singleton]; omega) (by simpa using h1u)
    have hb1 := setRow_heap w1.drew w.heap.size ROW (setAt ROW.toList i [u]).toArray 2 _ ha
    have hs1 : (setAt ROW.toList i [u]).length = G := by rw [setAt_length _ _ _ (by simp; omega), Array.length_toList, hRs]
    obtain ⟨w2, hw2⟩ : ∃ w2, w2 = w1.drew.setRow w.heap.size (setAt ROW.toList i [u]).toArray := ⟨_, rfl⟩
    rw [← hw2] at hb1
    have hb2 : w2.drew.heap[w.heap.size]? = some (.cells (setAt ROW.toList i [u]).toArray 2 (0, 0)) := hb1
    have e2 : w2.drew.setCells w.heap.size (i + 1) (cs.drop i) = w2.drew.setRow w.heap.size (setAt (setAt ROW.toList i [u]) (i + 1) (cs.drop i)).toArray := by
      have := setCells_row (vs := cs.drop i) (o := i + 1) hb2 (by simp only [List.size_toArray, hs1, hdl]; omega) h1d
      simpa using this
    rw [e1, ← hw2, e2] at hw'
    have hb3 := setRow_heap w2.drew w.heap.size _ (setAt (setAt ROW.toList i [u]) (i + 1) (cs.drop i)).toArray 2 _ hb2
    rw [← hw'] at hb3
    have hgb : w.grownBy w' none := by
      rw [hw', hw2, hw1]
      refine ⟨rfl, rfl, rfl, by simp [World.setRow], fun k hk _ => ?_⟩
      have hne : k ≠ w.heap.size := by omega
      rw [setRow_other _ _ k _ hne]
      show (World.setRow _ _ _).heap[k]? = _
      rw [setRow_other _ _ k _ hne]
      exact heap_alloc_old w _ k hk
    have S' := S.dead b
    have hlS : (H.set b AObj.dead).length = H.length := by simp
    have hT : (setAt (setAt ROW.toList i [u]) (i + 1) (cs.drop i)).toArray.toList.take (((es.take cap).take i ++ [[y]] ++ (es.take cap).drop i).length * 1) = cs.take i ++ [u] ++ cs.drop i := by
      rw [hlen]
      simp only [Nat.mul_one]
      apply List.ext_getElem?
      intro j
      rw [List.getElem?_take, setAt_get _ _ _ _ (by rw [hs1, hdl]; omega), setAt_get _ _ _ _ (by simp; omega), hdl]
      simp only [List.length_singleton]
      have hl : (cs.take i ++ [u]).length = i + 1 := by simp; omega
      by_cases h2 : j < i
      · have := congrArg (fun l => l[j]?) hRt
        simp only [List.getElem?_take, if_pos h2] at this
        rw [if_pos (by omega), if_pos (by omega), if_pos h2, List.append_assoc, List.getElem?_append_left (by rw [List.length_take]; omega), List.getElem?_take, if_pos h2, this]
      · by_cases h3 : j = i
        · subst h3
          rw [if_pos (by omega), if_pos (by omega), if_neg h2, if_pos (by omega), List.append_assoc, List.getElem?_append_right (by rw [List.length_take]; omega), List.length_take, hcl, show min j cap = j by omega]
          simp
        · by_cases h4 : j < cap + 1
          · rw [if_pos h4, if_neg (by omega), if_pos (by omega), List.getElem?_append_right (by omega), hl]
          · rw [if_neg h4, List.getElem?_eq_none (by simp; omega)]
    obtain ⟨g', k1, k2, k3⟩ := own_new S' (w' := w') (t := 2) (cur := (setAt (setAt ROW.toList i [u]) (i + 1) (cs.drop i)).toArray) (cp := G) hFF
      (by simp only [List.size_toArray]; rw [setAt_length _ _ _ (by rw [hs1, hdl]; omega), hs1]; omega) (by rw [hlen]; exact hGn) hT hGm hgb hb3
    rw [hlen, hlS] at k3
    exact ⟨_, _, _, g', he, ⟨rfl, rfl⟩, k1, k2, k3⟩

end Go.Proofs.Ytlhchnnfgppneaa.Ab
namespace Go.Proofs.Ytlhchnnfgppneaa.Ab
open Go Go.RowKit Go.Proofs
set_option linter.unusedSimpArgs false
set_option linter.unusedVariables false
attribute [local irreducible] Awp wpO thenQ blockQ bodyQ ACalls stepA

abbrev iv (n : Int) : AV := .val (.int .i64 n)
abbrev bv (b : Bool) : AV := .val (.bool b)

set_option maxRecDepth 8000 in
theorem insert_nil (H : Hp) (vb : Nat) (y : AV) (hvb : H[vb]? = some (.cells [[y]] 2)) : CallsTo Try.prog 59 [.val (.slice none 0 0), .val (.int .i64 0), .msl vb 0 1] H (.msl H.length 0 1) (H ++ [.cells [[y]] 2]) := by
  refine ACalls.of_body Try.func59 rfl (by kernel_rfl) (by rw [Try.ntmps59]; simp) ?_; rw [Try.ntmps59]
  repeat' (first | refine spD (fun _ => ?_) (fun _ => ?_) | refine spF (fun _ => ?_) (fun _ => ?_) | (apply gT; (exact rfl)) | (apply off; (exact rfl); (exact rfl)) | (apply condT; (exact rfl)) | (apply condF; (exact rfl)) | ((first | (apply stp0; (exact rfl); (exact rfl)) | (apply stpN0; (exact rfl)) | apply gT | apply condT | ((first | apply bodyQ_d0 | apply bodyQ_d1 | apply bodyQ_d2 | apply bodyQ_d3 | apply bodyQ_d4); (exact .inr rfl); (rw [Try.results59]))); (first | (focus (simp only [go_sem, ↓reduceIte, simprocAttr, hvb] <;> rfl)) | exact rfl); (first | (fail_if_success (show okD _ _ _ _ _ _ _ _ _)) | (first | exact okT | exact okN | exact okE rfl)); (first | (fail_if_success (show Bel _ _)) | (focus first | exact .val _ | (simp [oneOf, Bel_iff_tup, Bel_iff_agg, Bel_iff_rsl, Bel_iff_fn, Bel_iff_rptr, Bel_val]; done)))) | refine thenQ_n ?_ | refine thenQ_r ?_ | refine thenQ_e ?_ | refine blockQ_n ?_ | refine blockQ_r ?_ | refine blockQ_e ?_ | (apply blockQ_o; (exact rfl)) | refine Awp.seq ?_ | refine Awp.skip ?_ | refine Awp.block ?_ | refine reg (fun s => false) ?_ | (apply drwE mixed (fun s => false); (kernel_rfl)) | refine fin ?_ | refine Awp.ret ?_ | refine Awp.exit ?_ | ((first | (apply off; (exact rfl)) | apply condF); (first | (focus (simp only [go_sem, ↓reduceIte, simprocAttr, hvb] <;> rfl)) | exact rfl)))
  all_goals first | (exfalso; omega) | skip
  refine bodyQ_mk (vs := [.msl H.length 0 1]) (.inr rfl) ?_ (Vs.refl _ _ _) ?_
  · (rw [Try.results59]; first | (simp only [go_sem, ↓reduceIte, simprocAttr]; done) | (simp only [go_sem, ↓reduceIte, simprocAttr]; rfl))
  · exact ⟨rfl, rfl⟩

set_option maxRecDepth 8000 in
theorem insert_end (H : Hp) (b n vb : Nat) (es : List (List AV)) (y : Int) (hb : H[b]? = some (.cells es 2)) (hvb : H[vb]? = some (.cells [[iv y]] 2)) (hn : n ≤ es.length) (h0 : 0 < es.length)
    (hall : es.all (fun e => e.length == 1) = true) (hbig : (n + 1) * 8 ≤ 140737488355328) :
    CallsTo Try.prog 59 [.msl b 0 n, .val (.int .i64 n), .msl vb 0 1] H (.msl H.length 0 (n + 1)) (H.set b .dead ++ [.cells (es.take n ++ [[iv y]]) 2]) := by
  have hsl : sliceA Try.prog 46 (.msl b 0 n) (some (iv n)) none none = some (if n = 0 then .msl b 0 n else .rsl [] false) := by
    rw [sl46]
    unfold sliceB bnd
    have e0 : (0 : Int) ≤ (n : Int) := by omega
    simp only [e0, if_true, Int.toNat_natCast, Nat.le_refl, and_self]
    split <;> rfl
  refine ACalls.of_body Try.func59 rfl (by kernel_rfl) (by rw [Try.ntmps59]; simp) ?_; rw [Try.ntmps59]
  repeat' (first | refine spD (fun _ => ?_) (fun _ => ?_) | refine spF (fun _ => ?_) (fun _ => ?_) | (apply gT; (exact rfl)) | (apply off; (exact rfl); (exact rfl)) | (apply condT; (exact rfl)) | (apply condF; (exact rfl)) | ((first | (apply stp0; (exact rfl); (exact rfl)) | (apply stpN0; (exact rfl)) | apply gT | apply condT | ((first | apply bodyQ_d0 | apply bodyQ_d1 | apply bodyQ_d2 | apply bodyQ_d3 | apply bodyQ_d4); (exact .inr rfl); (rw [Try.results59]))); (first | (focus (simp only [go_sem, ↓reduceIte, simprocAttr, hb, hvb, hn, h0, hall, hbig, hsl, List.all_cons, List.all_nil] <;> rfl)) | exact rfl); (first | (fail_if_success (show okD _ _ _ _ _ _ _ _ _)) | (first | exact okT | exact okN | exact okE rfl)); (first | (fail_if_success (show Bel _ _)) | (focus first | exact .val _ | (simp [oneOf, Bel_iff_tup, Bel_iff_agg, Bel_iff_rsl, Bel_iff_fn, Bel_iff_rptr, Bel_val]; done)))) | refine thenQ_n ?_ | refine thenQ_r ?_ | refine thenQ_e ?_ | refine blockQ_n ?_ | refine blockQ_r ?_ | refine blockQ_e ?_ | (apply blockQ_o; (exact rfl)) | refine Awp.seq ?_ | refine Awp.skip ?_ | refine Awp.block ?_ | refine reg (fun s => false) ?_ | (apply drwE mixed (fun s => false); (kernel_rfl)) | refine fin ?_ | refine Awp.ret ?_ | refine Awp.exit ?_ | ((first | (apply off; (exact rfl)) | apply condF); (first | (focus (simp only [go_sem, ↓reduceIte, simprocAttr, hb, hvb, hn, h0, hall, hbig, hsl, List.all_cons, List.all_nil] <;> rfl)) | exact rfl)))
  all_goals first | (exfalso; omega) | skip
  refine bodyQ_mk (vs := [.msl H.length 0 (n + 1)]) (.inr rfl) ?_ (Vs.refl _ _ _) ?_
  · (rw [Try.results59]; first | (simp only [go_sem, ↓reduceIte, simprocAttr]; done) | (simp only [go_sem, ↓reduceIte, simprocAttr]; rfl))
  · exact ⟨rfl, rfl⟩

/-- what is known of slices.Insert: one number, ahead of the others or behind them -/
def insX : Ora := fun k args H =>
  if k = 59 then
    match args with
    | [s, .val (.int .i64 i), .msl vb 0 1] => match H[vb]? with
      | some (.cells [[.val (.int .i64 y)]] 2) =>
        match s with
        | .val (.slice none 0 0) => if i = 0 then some (.msl H.length 0 1, H ++ [.cells [[.val (.int .i64 y)]] 2], []) else none
        | .msl b 0 n => match H[b]? with
          | some (.cells es 2) =>
            if 0 ≤ i ∧ i.toNat ≤ n ∧ n ≤ es.length ∧ b ≠ vb ∧ 0 < es.length ∧ es.all (fun e => e.length == 1) = true ∧ es.all (fun e => e.all AV.isCell) = true ∧ (n + 1) * 8 ≤ 140737488355328 then
              some (.msl H.length 0 (n + 1), H.set b .dead ++ [.cells ((es.take n).take i.toNat ++ [[.val (.int .i64 y)]] ++ (es.take n).drop i.toNat) 2], [b]) else none
          | _ => none
        | _ => none
      | _ => none
    | _ => none
  else none

theorem insX_ok : OraOk Try.prog insX := by
  intro k args H v H' t h
  unfold insX at h
  split at h
  · rename_i hk
    subst hk
    split at h
    · rename_i s i vb
      split at h
      · rename_i y hvb
        split at h
        · split at h
          · rename_i hi
            subst hi
            cases h
            exact ⟨insert_nil H vb _ hvb, Keeps.app _ _ _⟩
          · cases h
        · rename_i b n
          split at h
          · rename_i es hb
            split at h
            · rename_i hif
              obtain ⟨h0, h1, h2, h3, h4, h5, h6, h7⟩ := hif
              cases h
              refine ⟨?_, (Keeps.set _ _ _).trans (Keeps.app _ _ []) |>.weak (by simp)⟩
              rcases Nat.lt_or_ge i.toNat n with hlt | hge
              · have := insert_mid H b n i.toNat vb es (.val (.int .i64 y)) hb hvb h3 hlt h2 h5 h6 rfl h7
                rwa [show ((i.toNat : Nat) : Int) = i by omega] at this
              · have hin : i.toNat = n := by omega
                have := insert_end H b n vb es y hb hvb h2 h4 h5 h7
                rw [show ((n : Nat) : Int) = i by omega] at this
                rw [hin, List.take_of_length_le (by simp; omega), List.drop_of_length_le (by simp; omega), List.append_nil]
                exact this
            · cases h
          · cases h
        · cases h
      · cases h
    · cases h
  · cases h

/-- which slots are own blocks -/
def ownT : Nat → List Nat
  | 16 => [11]
  | 24 => [7, 54]
  | 60 => [2, 5]
  | 63 => [5]
  | _ => []
def ownF (k : FuncId) (s : Nat) : Bool := (ownT k).contains s

theorem fine_ok (H : Hp) : CallsTo Try.prog 20 [] H (bv true) H := closed_call (by kernel_rfl) insX_ok ownF 3000 (by kernel_rfl) H

end Go.Proofs.Ytlhchnnfgppneaa.Ab
namespace Go.Proofs.Ytlhchnnfgppneaa.Ab
open Go Go.RowKit Go.Proofs
set_option linter.unusedSimpArgs false
set_option linter.unusedVariables false

variable {base : Nat} {w0 w w' : World} {g : Gh} {H : Hp}

theorem clone_eq (t : TypeId) (r : Nat) : Extern.MapsClone.clone #[.iface t (.map (some r))] = (do
    let .map entries clock ← getObj r | stuck "maps.clone: a map expected"
    pure (.iface t (.map (some (← newObj (.map entries clock)))))) := rfl

theorem clone_fn (w : World) (t : TypeId) (r : Nat) (ms : Array MapEntry) (clock : Nat) (h : w.heap[r]? = some (.map ms clock)) :
    (callFunc 101 #[.iface t (.map (some r))]).run Try.prog w = .ok (.value (.iface t (.map (some w.heap.size)))) (w.alloc (.map ms clock)) := by
  rw [run_callFunc_extern Try.func101 (by kernel_rfl) (by kernel_rfl) (by kernel_rfl) (e := Extern.MapsClone.clone) (by kernel_rfl), clone_eq]
  have e1 : (getObj r).run Try.prog w = .ok (.map ms clock) w := by simp [getObj, Sem.run, h]
  simp [e1]

/-- the two steps of Go's own that are no contract of stepA's -/
theorem clone_iface (w : World) (t k e : TypeId) (r : Nat) (h : Try.prog.underlying t = some (.map k e)) : (Instr.makeInterface t (.map (some r))).run Try.prog w = .ok (.iface t (.map (some r))) w := by
  simp [Instr.makeInterface, run_underlying h]
theorem clone_back (w : World) (t k e : TypeId) (r : Nat) (h : Try.prog.underlying t = some (.map k e)) : (Instr.typeAssert (.iface t (.map (some r))) 20 t false).run Try.prog w = .ok (.map (some r)) w := by
  simp [Instr.typeAssert, run_underlying h]

theorem i_at40 : Try.prog.underlying 40 = some (.map 2 23) := by kernel_rfl

set_option maxHeartbeats 4000000 in
set_option maxRecDepth 100000 in
theorem clone71 (w : World) (r : Nat) (ms : Array MapEntry) (clock : Nat) (h : w.heap[r]? = some (.map ms clock)) :
    Calls Try.prog 71 #[.map (some r)] w fun e w' => e = .returned (.map (some w.heap.size)) ∧ w' = w.alloc (.map ms clock) := by
  have q40 : ∀ (w : World) (r : Option Nat), (binOp .eql 40 (.map r) (.map none)).run Try.prog w = .ok (.bool r.isNone) w := fun w r => run_eql_map_nil w _ _ _ r i_at40
  have h1 := clone_iface w 40 _ _ r i_at40
  have h2 := clone_fn w 40 r ms clock h
  have h3 := fun w => clone_back w 40 _ _ r i_at40
  have h4 := fun w r => clone_back w 40 _ _ r i_at40
  go_enter Try.func71, Try.ntmps71
  go_wp2_with (simp only [h1, h2, h3, h4, q40])
  go_ret
  exact ⟨rfl, rfl⟩

theorem i_at106 : ∃ k e, Try.prog.underlying 106 = some (.map k e) := ⟨2, 3, by kernel_rfl⟩
theorem i_at107 : ∃ k e, Try.prog.underlying 107 = some (.map k e) := ⟨2, 2, by kernel_rfl⟩

set_option maxHeartbeats 4000000 in
set_option maxRecDepth 100000 in
theorem clone72 (w : World) (r : Nat) (ms : Array MapEntry) (clock : Nat) (h : w.heap[r]? = some (.map ms clock)) :
    Calls Try.prog 72 #[.map (some r)] w fun e w' => e = .returned (.map (some w.heap.size)) ∧ w' = w.alloc (.map ms clock) := by
  obtain ⟨k, e, i_at⟩ := i_at106
  have q40 : ∀ (w : World) (r : Option Nat), (binOp .eql 106 (.map r) (.map none)).run Try.prog w = .ok (.bool r.isNone) w := fun w r => run_eql_map_nil w _ _ _ r i_at
  have h1 := clone_iface w 106 _ _ r i_at
  have h2 := clone_fn w 106 r ms clock h
  have h4 := fun w r => clone_back w 106 _ _ r i_at
  go_enter Try.func72, Try.ntmps72
  go_wp2_with (simp only [h1, h2, h4, q40])
  go_ret
  exact ⟨rfl, rfl⟩

set_option maxHeartbeats 4000000 in
set_option maxRecDepth 100000 in
theorem clone73 (w : World) (r : Nat) (ms : Array MapEntry) (clock : Nat) (h : w.heap[r]? = some (.map ms clock)) :
    Calls Try.prog 73 #[.map (some r)] w fun e w' => e = .returned (.map (some w.heap.size)) ∧ w' = w.alloc (.map ms clock) := by
  obtain ⟨k, e, i_at⟩ := i_at107
  have q40 : ∀ (w : World) (r : Option Nat), (binOp .eql 107 (.map r) (.map none)).run Try.prog w = .ok (.bool r.isNone) w := fun w r => run_eql_map_nil w _ _ _ r i_at
  have h1 := clone_iface w 107 _ _ r i_at
  have h2 := clone_fn w 107 r ms clock h
  have h4 := fun w r => clone_back w 107 _ _ r i_at
  go_enter Try.func73, Try.ntmps73
  go_wp2_with (simp only [h1, h2, h4, q40])
  go_ret
  exact ⟨rfl, rfl⟩

theorem oneArg0 {a : AV} {vs : Array Value} (hr : RCells g [a] vs) : ∃ v0, vs = #[v0] ∧ R g a v0 := by
  have hs := hr.size
  match vs, hs, hr with
  | ⟨[v0]⟩, _, hr => exact ⟨v0, rfl, hr.cell 0 _ _ rfl rfl⟩

theorem clone_of {f : FuncId} (hc : callable Try.prog f = true) (hC : ∀ (w : World) (r : Nat) (ms : Array MapEntry) (clock : Nat), w.heap[r]? = some (.map ms clock) → Calls Try.prog f #[.map (some r)] w fun e w' => e = .returned (.map (some w.heap.size)) ∧ w' = w.alloc (.map ms clock))
    {H : Hp} {b : Nat} {es : List (AV × AV)} (hb : H[b]? = some (.amap es)) : CallsTo Try.prog f [.mp b] H (.mp H.length) (H ++ [.amap es]) := by
  refine ⟨hc, fun base w0 g w vs S hr => ?_⟩
  obtain ⟨v0, rfl, h0⟩ := oneArg0 hr
  cases h0 with
  | mp hx =>
  rename_i x
  obtain ⟨y, o, h1, h2, h3⟩ := S.obj b _ hb (by simp)
  rw [hx] at h1; cases h1
  cases h3 with
  | amap hl hr' hs =>
  rename_i ms clock
  refine (callsIn_wide.2 (hC w x ms clock h2)).mono fun e w' ⟨he, hw'⟩ => ?_
  subst he hw'
  have hle : g.le (g.phAdd H.length w.heap.size 0 0) := Gh.phAdd_le S.fresh
  have S2 := S.alloc (k := 0) (c := 0) (ob := .amap es) (World.grownBy_alloc w (.map ms clock) none) (heap_alloc_new _ _) (.amap hl (fun i e m he hm => ⟨(hr' i e m he hm).1.mono hle, (hr' i e m he hm).2.mono hle⟩) hs)
  exact ⟨_, _, _, _, rfl, ⟨rfl, rfl⟩, hle, S2, .mp (by simp [Gh.phAdd])⟩

theorem clone71_ok {H : Hp} {b : Nat} {es : List (AV × AV)} (hb : H[b]? = some (.amap es)) : CallsTo Try.prog 71 [.mp b] H (.mp H.length) (H ++ [.amap es]) := clone_of (by kernel_rfl) clone71 hb
theorem clone72_ok {H : Hp} {b : Nat} {es : List (AV × AV)} (hb : H[b]? = some (.amap es)) : CallsTo Try.prog 72 [.mp b] H (.mp H.length) (H ++ [.amap es]) := clone_of (by kernel_rfl) clone72 hb
theorem clone73_ok {H : Hp} {b : Nat} {es : List (AV × AV)} (hb : H[b]? = some (.amap es)) : CallsTo Try.prog 73 [.mp b] H (.mp H.length) (H ++ [.amap es]) := clone_of (by kernel_rfl) clone73 hb

end Go.Proofs.Ytlhchnnfgppneaa.Ab
namespace Go.Proofs.Ytlhchnnfgppneaa.Ab
open Go Go.RowKit Go.Proofs
set_option linter.unusedSimpArgs false
set_option linter.unusedVariables false
attribute [local irreducible] Awp wpO thenQ blockQ bodyQ ACalls stepA

abbrev nilS : AV := .val (.slice none 0 0)
abbrev nilP : AV := .val (.pointer none)
theorem nth {α : Type} {l : List α} {i : Nat} (h : i < l.length) : ∃ a, l[i]? = some a := ⟨_, List.getElem?_eq_getElem h⟩
theorem nthMap {α β : Type} {l : List α} {i : Nat} {a : α} (g : α → β) (h : l[i]? = some a) : (l.map g)[i]? = some (g a) := by rw [List.getElem?_map, h]; rfl
def ints (v : List Int) : List (List AV) := v.map fun x => [iv x]
theorem ints_len (v : List Int) : (ints v).length = v.length := by simp [ints]

structure Item where
  id : Int
  cls : Int
  made : Int
  size : Int
  pk : Int
def Item.cs (r : Item) : List AV := [iv r.id, iv r.cls, iv r.made, iv r.size, iv r.pk]

def Item.ok (r : Item) : Prop := (0 ≤ r.id ∧ r.id ≤ 1073741824) ∧ (0 ≤ r.cls ∧ r.cls ≤ 9) ∧ (0 ≤ r.made ∧ r.made ≤ 1073741824) ∧ (1 ≤ r.size ∧ r.size ≤ 16777216) ∧ 1 ≤ r.pk ∧ r.pk ≤ r.size
instance (r : Item) : Decidable r.ok := by unfold Item.ok; infer_instance
def Item.code (r : Item) : Int := if r.ok then 0 else 2

theorem outside_ok (H : Hp) (x lo hi : Int) : CallsTo Try.prog 54 [iv x, iv lo, iv hi] H (bv (decide (x < lo ∨ x > hi))) H := by
  refine ACalls.of_body Try.func54 rfl (by kernel_rfl) (by rw [Try.ntmps54]; simp) ?_; rw [Try.ntmps54]
  repeat' (first | refine spD (fun _ => ?_) (fun _ => ?_) | refine spF (fun _ => ?_) (fun _ => ?_) | (apply gT; (exact rfl)) | (apply off; (exact rfl); (exact rfl)) | (apply condT; (exact rfl)) | (apply condF; (exact rfl)) | ((first | (apply stp0; (exact rfl); (exact rfl)) | (apply stpN0; (exact rfl)) | apply gT | apply condT | ((first | apply bodyQ_d0 | apply bodyQ_d1 | apply bodyQ_d2 | apply bodyQ_d3 | apply bodyQ_d4); (exact .inr rfl); (rw [Try.results54]))); (first | (focus (simp only [go_sem, ↓reduceIte, simprocAttr] <;> rfl)) | exact rfl); (first | (fail_if_success (show okD _ _ _ _ _ _ _ _ _)) | (first | exact okT | exact okN | exact okE rfl)); (first | (fail_if_success (show Bel _ _)) | (focus first | exact .val _ | (simp [oneOf, Bel_iff_tup, Bel_iff_agg, Bel_iff_rsl, Bel_iff_fn, Bel_iff_rptr, Bel_val]; done)))) | refine thenQ_n ?_ | refine thenQ_r ?_ | refine thenQ_e ?_ | refine blockQ_n ?_ | refine blockQ_r ?_ | refine blockQ_e ?_ | (apply blockQ_o; (exact rfl)) | refine Awp.seq ?_ | refine Awp.skip ?_ | refine Awp.block ?_ | refine reg (fun s => false) ?_ | (apply drwE mixed (fun s => false); (kernel_rfl)) | refine fin ?_ | refine Awp.ret ?_ | refine Awp.exit ?_ | ((first | (apply off; (exact rfl)) | apply condF); (first | (focus (simp only [go_sem, ↓reduceIte, simprocAttr] <;> rfl)) | exact rfl)))
  all_goals simp [oneOf, *]

theorem check_ok (H : Hp) (r : Item) : CallsTo Try.prog 18 [.agg r.cs] H (iv r.code) H := by
  refine ACalls.of_body Try.func18 rfl (by kernel_rfl) (by rw [Try.ntmps18]; simp) ?_; rw [Try.ntmps18]
  repeat' (first | refine spD (fun _ => ?_) (fun _ => ?_) | refine spF (fun _ => ?_) (fun _ => ?_) | (apply gT; (exact rfl)) | (apply off; (exact rfl); (exact rfl)) | (apply condT; (exact rfl)) | (apply condF; (exact rfl)) | ((first | (apply stp0; (exact rfl); (exact rfl)) | (apply stpN0; (exact rfl)) | apply gT | apply condT | ((first | apply bodyQ_d0 | apply bodyQ_d1 | apply bodyQ_d2 | apply bodyQ_d3 | apply bodyQ_d4); (exact .inr rfl); (rw [Try.results18]))); (first | (focus (simp only [go_sem, ↓reduceIte, simprocAttr, Item.cs] <;> rfl)) | exact rfl); (first | (fail_if_success (show okD _ _ _ _ _ _ _ _ _)) | (first | exact okT | exact okN | exact okE rfl)); (first | (fail_if_success (show Bel _ _)) | (focus first | exact .val _ | (simp [oneOf, Bel_iff_tup, Bel_iff_agg, Bel_iff_rsl, Bel_iff_fn, Bel_iff_rptr, Bel_val]; done)))) | (apply calTo0; (exact rfl); (iterate 2 (simp only [go_sem, ↓reduceIte, simprocAttr, Item.cs]; rfl)); (first | exact outside_ok _ _ _ _); (first | exact okT | exact okN | exact okE rfl)) | refine thenQ_n ?_ | refine thenQ_r ?_ | refine thenQ_e ?_ | refine blockQ_n ?_ | refine blockQ_r ?_ | refine blockQ_e ?_ | (apply blockQ_o; (exact rfl)) | refine Awp.seq ?_ | refine Awp.skip ?_ | refine Awp.block ?_ | refine reg (fun s => false) ?_ | (apply drwE mixed (fun s => false); (kernel_rfl)) | refine fin ?_ | refine Awp.ret ?_ | refine Awp.exit ?_ | ((first | (apply off; (exact rfl)) | apply condF); (first | (focus (simp only [go_sem, ↓reduceIte, simprocAttr, Item.cs] <;> rfl)) | exact rfl)))
  all_goals first
    | (rw [show r.code = 0 by unfold Item.code; rw [if_pos (by unfold Item.ok; omega)]]; rfl)
    | (rw [show r.code = 2 by unfold Item.code; rw [if_neg (by unfold Item.ok; omega)]]; rfl)

theorem rcheck_ok (H : Hp) (r : Item) : CallsTo Try.prog 19 [.agg r.cs] H (iv r.code) H := by
  refine ACalls.of_body Try.func19 rfl (by kernel_rfl) (by rw [Try.ntmps19]; simp) ?_; rw [Try.ntmps19]
  repeat' (first | refine spD (fun _ => ?_) (fun _ => ?_) | refine spF (fun _ => ?_) (fun _ => ?_) | (apply gT; (exact rfl)) | (apply off; (exact rfl); (exact rfl)) | (apply condT; (exact rfl)) | (apply condF; (exact rfl)) | ((first | (apply stp0; (exact rfl); (exact rfl)) | (apply stpN0; (exact rfl)) | apply gT | apply condT | ((first | apply bodyQ_d0 | apply bodyQ_d1 | apply bodyQ_d2 | apply bodyQ_d3 | apply bodyQ_d4); (exact .inr rfl); (rw [Try.results19]))); (first | (focus (simp only [go_sem, ↓reduceIte, simprocAttr, Item.cs] <;> rfl)) | exact rfl); (first | (fail_if_success (show okD _ _ _ _ _ _ _ _ _)) | (first | exact okT | exact okN | exact okE rfl)); (first | (fail_if_success (show Bel _ _)) | (focus first | exact .val _ | (simp [oneOf, Bel_iff_tup, Bel_iff_agg, Bel_iff_rsl, Bel_iff_fn, Bel_iff_rptr, Bel_val]; done)))) | refine thenQ_n ?_ | refine thenQ_r ?_ | refine thenQ_e ?_ | refine blockQ_n ?_ | refine blockQ_r ?_ | refine blockQ_e ?_ | (apply blockQ_o; (exact rfl)) | refine Awp.seq ?_ | refine Awp.skip ?_ | refine Awp.block ?_ | refine reg (fun s => false) ?_ | (apply drwE mixed (fun s => false); (kernel_rfl)) | refine fin ?_ | refine Awp.ret ?_ | refine Awp.exit ?_ | ((first | (apply off; (exact rfl)) | apply condF); (first | (focus (simp only [go_sem, ↓reduceIte, simprocAttr, Item.cs] <;> rfl)) | exact rfl)))
  all_goals first
    | (rw [show r.code = 0 by unfold Item.code; rw [if_pos (by unfold Item.ok; omega)]]; rfl)
    | (rw [show r.code = 2 by unfold Item.code; rw [if_neg (by unfold Item.ok; omega)]]; rfl)

def sgn (x y : Int) : Int := if x < y then -1 else if x > y then 1 else 0

theorem nan_ok (H : Hp) (x : Int) : CallsTo Try.prog 110 [iv x] H (bv false) H := by
  refine ACalls.of_body Try.func110 rfl (by kernel_rfl) (by rw [Try.ntmps110]; simp) ?_; rw [Try.ntmps110]
  repeat' (first | refine spD (fun _ => ?_) (fun _ => ?_) | refine spF (fun _ => ?_) (fun _ => ?_) | (apply gT; (exact rfl)) | (apply off; (exact rfl); (exact rfl)) | (apply condT; (exact rfl)) | (apply condF; (exact rfl)) | ((first | (apply stp0; (exact rfl); (exact rfl)) | (apply stpN0; (exact rfl)) | apply gT | apply condT | ((first | apply bodyQ_d0 | apply bodyQ_d1 | apply bodyQ_d2 | apply bodyQ_d3 | apply bodyQ_d4); (exact .inr rfl); (rw [Try.results110]))); (first | (focus (simp only [go_sem, ↓reduceIte, simprocAttr] <;> rfl)) | exact rfl); (first | (fail_if_success (show okD _ _ _ _ _ _ _ _ _)) | (first | exact okT | exact okN | exact okE rfl)); (first | (fail_if_success (show Bel _ _)) | (focus first | exact .val _ | (simp [oneOf, Bel_iff_tup, Bel_iff_agg, Bel_iff_rsl, Bel_iff_fn, Bel_iff_rptr, Bel_val]; done)))) | refine thenQ_n ?_ | refine thenQ_r ?_ | refine thenQ_e ?_ | refine blockQ_n ?_ | refine blockQ_r ?_ | refine blockQ_e ?_ | (apply blockQ_o; (exact rfl)) | refine Awp.seq ?_ | refine Awp.skip ?_ | refine Awp.block ?_ | refine reg (fun s => false) ?_ | (apply drwE mixed (fun s => false); (kernel_rfl)) | refine fin ?_ | refine Awp.ret ?_ | refine Awp.exit ?_ | ((first | (apply off; (exact rfl)) | apply condF); (first | (focus (simp only [go_sem, ↓reduceIte, simprocAttr] <;> rfl)) | exact rfl)))
  all_goals first | rfl | (exfalso; omega)
theorem nanI_ok (H : Hp) (x : Int) : CallsTo Try.prog 113 [iv x] H (bv false) H := by
  refine ACalls.of_body Try.func113 rfl (by kernel_rfl) (by rw [Try.ntmps113]; simp) ?_; rw [Try.ntmps113]
  repeat' (first | refine spD (fun _ => ?_) (fun _ => ?_) | refine spF (fun _ => ?_) (fun _ => ?_) | (apply gT; (exact rfl)) | (apply off; (exact rfl); (exact rfl)) | (apply condT; (exact rfl)) | (apply condF; (exact rfl)) | ((first | (apply stp0; (exact rfl); (exact rfl)) | (apply stpN0; (exact rfl)) | apply gT | apply condT | ((first | apply bodyQ_d0 | apply bodyQ_d1 | apply bodyQ_d2 | apply bodyQ_d3 | apply bodyQ_d4); (exact .inr rfl); (rw [Try.results113]))); (first | (focus (simp only [go_sem, ↓reduceIte, simprocAttr] <;> rfl)) | exact rfl); (first | (fail_if_success (show okD _ _ _ _ _ _ _ _ _)) | (first | exact okT | exact okN | exact okE rfl)); (first | (fail_if_success (show Bel _ _)) | (focus first | exact .val _ | (simp [oneOf, Bel_iff_tup, Bel_iff_agg, Bel_iff_rsl, Bel_iff_fn, Bel_iff_rptr, Bel_val]; done)))) | refine thenQ_n ?_ | refine thenQ_r ?_ | refine thenQ_e ?_ | refine blockQ_n ?_ | refine blockQ_r ?_ | refine blockQ_e ?_ | (apply blockQ_o; (exact rfl)) | refine Awp.seq ?_ | refine Awp.skip ?_ | refine Awp.block ?_ | refine reg (fun s => false) ?_ | (apply drwE mixed (fun s => false); (kernel_rfl)) | refine fin ?_ | refine Awp.ret ?_ | refine Awp.exit ?_ | ((first | (apply off; (exact rfl)) | apply condF); (first | (focus (simp only [go_sem, ↓reduceIte, simprocAttr] <;> rfl)) | exact rfl)))
  all_goals first | rfl | (exfalso; omega)

theorem cmp_ok (H : Hp) (x y : Int) : CallsTo Try.prog 83 [iv x, iv y] H (iv (sgn x y)) H := by
  refine ACalls.of_body Try.func83 rfl (by kernel_rfl) (by rw [Try.ntmps83]; simp) ?_; rw [Try.ntmps83]
  repeat' (first | refine spD (fun _ => ?_) (fun _ => ?_) | refine spF (fun _ => ?_) (fun _ => ?_) | (apply gT; (exact rfl)) | (apply off; (exact rfl); (exact rfl)) | (apply condT; (exact rfl)) | (apply condF; (exact rfl)) | ((first | (apply stp0; (exact rfl); (exact rfl)) | (apply stpN0; (exact rfl)) | apply gT | apply condT | ((first | apply bodyQ_d0 | apply bodyQ_d1 | apply bodyQ_d2 | apply bodyQ_d3 | apply bodyQ_d4); (exact .inr rfl); (rw [Try.results83]))); (first | (focus (simp only [go_sem, ↓reduceIte, simprocAttr] <;> rfl)) | exact rfl); (first | (fail_if_success (show okD _ _ _ _ _ _ _ _ _)) | (first | exact okT | exact okN | exact okE rfl)); (first | (fail_if_success (show Bel _ _)) | (focus first | exact .val _ | (simp [oneOf, Bel_iff_tup, Bel_iff_agg, Bel_iff_rsl, Bel_iff_fn, Bel_iff_rptr, Bel_val]; done)))) | (apply calTo0; (exact rfl); (iterate 2 (simp only [go_sem, ↓reduceIte, simprocAttr]; rfl)); (first | exact nan_ok _ _); (first | exact okT | exact okN | exact okE rfl)) | refine thenQ_n ?_ | refine thenQ_r ?_ | refine thenQ_e ?_ | refine blockQ_n ?_ | refine blockQ_r ?_ | refine blockQ_e ?_ | (apply blockQ_o; (exact rfl)) | refine Awp.seq ?_ | refine Awp.skip ?_ | refine Awp.block ?_ | refine reg (fun s => false) ?_ | (apply drwE mixed (fun s => false); (kernel_rfl)) | refine fin ?_ | refine Awp.ret ?_ | refine Awp.exit ?_ | ((first | (apply off; (exact rfl)) | apply condF); (first | (focus (simp only [go_sem, ↓reduceIte, simprocAttr] <;> rfl)) | exact rfl)))
  · rename_i h; rw [show sgn x y = -1 by unfold sgn; rw [if_pos h]]; rfl
  · rename_i h1 h2; rw [show sgn x y = 1 by unfold sgn; rw [if_neg h1, if_pos h2]]; rfl
  · rename_i h1 h2; rw [show sgn x y = 0 by unfold sgn; rw [if_neg h1, if_neg h2]]; rfl
theorem cmpI_ok (H : Hp) (x y : Int) : CallsTo Try.prog 93 [iv x, iv y] H (iv (sgn x y)) H := by
  refine ACalls.of_body Try.func93 rfl (by kernel_rfl) (by rw [Try.ntmps93]; simp) ?_; rw [Try.ntmps93]
  repeat' (first | refine spD (fun _ => ?_) (fun _ => ?_) | refine spF (fun _ => ?_) (fun _ => ?_) | (apply gT; (exact rfl)) | (apply off; (exact rfl); (exact rfl)) | (apply condT; (exact rfl)) | (apply condF; (exact rfl)) | ((first | (apply stp0; (exact rfl); (exact rfl)) | (apply stpN0; (exact rfl)) | apply gT | apply condT | ((first | apply bodyQ_d0 | apply bodyQ_d1 | apply bodyQ_d2 | apply bodyQ_d3 | apply bodyQ_d4); (exact .inr rfl); (rw [Try.results93]))); (first | (focus (simp only [go_sem, ↓reduceIte, simprocAttr] <;> rfl)) | exact rfl); (first | (fail_if_success (show okD _ _ _ _ _ _ _ _ _)) | (first | exact okT | exact okN | exact okE rfl)); (first | (fail_if_success (show Bel _ _)) | (focus first | exact .val _ | (simp [oneOf, Bel_iff_tup, Bel_iff_agg, Bel_iff_rsl, Bel_iff_fn, Bel_iff_rptr, Bel_val]; done)))) | (apply calTo0; (exact rfl); (iterate 2 (simp only [go_sem, ↓reduceIte, simprocAttr]; rfl)); (first | exact nanI_ok _ _); (first | exact okT | exact okN | exact okE rfl)) | refine thenQ_n ?_ | refine thenQ_r ?_ | refine thenQ_e ?_ | refine blockQ_n ?_ | refine blockQ_r ?_ | refine blockQ_e ?_ | (apply blockQ_o; (exact rfl)) | refine Awp.seq ?_ | refine Awp.skip ?_ | refine Awp.block ?_ | refine reg (fun s => false) ?_ | (apply drwE mixed (fun s => false); (kernel_rfl)) | refine fin ?_ | refine Awp.ret ?_ | refine Awp.exit ?_ | ((first | (apply off; (exact rfl)) | apply condF); (first | (focus (simp only [go_sem, ↓reduceIte, simprocAttr] <;> rfl)) | exact rfl)))
  · rename_i h; rw [show sgn x y = -1 by unfold sgn; rw [if_pos h]]; rfl
  · rename_i h1 h2; rw [show sgn x y = 1 by unfold sgn; rw [if_neg h1, if_pos h2]]; rfl
  · rename_i h1 h2; rw [show sgn x y = 0 by unfold sgn; rw [if_neg h1, if_neg h2]]; rfl

/-- the first that is not zero -/
def orL : List Int → Int
  | [] => 0
  | x :: l => if x ≠ 0 then x else orL l

theorem orL_drop {l : List Int} {i : Nat} {x : Int} (h : l[i]? = some x) : orL (l.drop i) = if x ≠ 0 then x else orL (l.drop (i + 1)) := by
  have hlt := (List.getElem?_eq_some_iff.1 h).1
  rw [List.drop_eq_getElem_cons hlt, (List.getElem?_eq_some_iff.1 h).2]
  rfl

theorem orI_ok (H : Hp) (v : List Int) (ex : Bool) (hm : v.length ≤ maxLen) : CallsTo Try.prog 92 [.rsl (ints v) ex] H (iv (orL v)) H := by
  have hvl := ints_len v
  refine ACalls.of_body Try.func92 rfl (by kernel_rfl) (by rw [Try.ntmps92]; simp) ?_; rw [Try.ntmps92]
  repeat' (first | refine spD (fun _ => ?_) (fun _ => ?_) | refine spF (fun _ => ?_) (fun _ => ?_) | (apply gT; (exact rfl)) | (apply off; (exact rfl); (exact rfl)) | (apply condT; (exact rfl)) | (apply condF; (exact rfl)) | ((first | (apply stp0; (exact rfl); (exact rfl)) | (apply stpN0; (exact rfl)) | apply gT | apply condT | ((first | apply bodyQ_d0 | apply bodyQ_d1 | apply bodyQ_d2 | apply bodyQ_d3 | apply bodyQ_d4); (exact .inr rfl); (rw [Try.results92]))); (first | (focus (simp only [go_sem, ↓reduceIte, simprocAttr, hvl] <;> rfl)) | exact rfl); (first | (fail_if_success (show okD _ _ _ _ _ _ _ _ _)) | (first | exact okT | exact okN | exact okE rfl)); (first | (fail_if_success (show Bel _ _)) | (focus first | exact .val _ | (simp [oneOf, Bel_iff_tup, Bel_iff_agg, Bel_iff_rsl, Bel_iff_fn, Bel_iff_rptr, Bel_val]; done)))) | refine thenQ_n ?_ | refine thenQ_r ?_ | refine thenQ_e ?_ | refine blockQ_n ?_ | refine blockQ_r ?_ | refine blockQ_e ?_ | (apply blockQ_o; (exact rfl)) | refine Awp.seq ?_ | refine Awp.skip ?_ | refine Awp.block ?_ | refine reg (fun s => false) ?_ | (apply drwE mixed (fun s => false); (kernel_rfl)) | refine fin ?_ | refine Awp.ret ?_ | refine Awp.exit ?_ | ((first | (apply off; (exact rfl)) | apply condF); (first | (focus (simp only [go_sem, ↓reduceIte, simprocAttr, hvl] <;> rfl)) | exact rfl)))
  refine Awp.loop (ι := Nat) (fun i T' H' => i ≤ v.length ∧ T' 8 = iv i ∧ T' 7 = iv v.length ∧ T' 6 = .rsl (ints v) ex ∧ T' 3 = iv 0 ∧ H' = H ∧ orL v = orL (v.drop i)) (fun i => v.length - i) 0 ?_ ?_
  · refine ⟨by simp, ?_, ?_, ?_, ?_, rfl, rfl⟩
    · (first | (focus (simp only [go_sem, ↓reduceIte, simprocAttr]; first | done | rfl)) | rfl)
    · simp only [go_sem, ↓reduceIte, simprocAttr]
    · simp only [go_sem, ↓reduceIte, simprocAttr]
    · simp only [go_sem, ↓reduceIte, simprocAttr]
  rintro i T H' ⟨hi, h8, h7, h6, h3, rfl, ho⟩
  by_cases hlt : i < v.length
  · obtain ⟨x, hx⟩ := nth hlt
    have hxc : (ints v)[i]? = some [iv x] := nthMap (fun x => [iv x]) hx
    rw [orL_drop hx] at ho
    repeat' (first | refine spD (fun _ => ?_) (fun _ => ?_) | refine spF (fun _ => ?_) (fun _ => ?_) | (apply gT; (exact rfl)) | (apply off; (exact rfl); (exact rfl)) | (apply condT; (exact rfl)) | (apply condF; (exact rfl)) | ((first | (apply stp0; (exact rfl); (exact rfl)) | (apply stpN0; (exact rfl)) | apply gT | apply condT | ((first | apply bodyQ_d0 | apply bodyQ_d1 | apply bodyQ_d2 | apply bodyQ_d3 | apply bodyQ_d4); (exact .inr rfl); (rw [Try.results92]))); (first | (focus (simp only [go_sem, ↓reduceIte, simprocAttr, h8, h7, h6, h3, hxc] <;> rfl)) | exact rfl); (first | (fail_if_success (show okD _ _ _ _ _ _ _ _ _)) | (first | exact okT | exact okN | exact okE rfl)); (first | (fail_if_success (show Bel _ _)) | (focus first | exact .val _ | (simp [oneOf, Bel_iff_tup, Bel_iff_agg, Bel_iff_rsl, Bel_iff_fn, Bel_iff_rptr, Bel_val]; done)))) | refine thenQ_n ?_ | refine thenQ_r ?_ | refine thenQ_e ?_ | refine blockQ_n ?_ | refine blockQ_r ?_ | refine blockQ_e ?_ | (apply blockQ_o; (exact rfl)) | refine Awp.seq ?_ | refine Awp.skip ?_ | refine Awp.block ?_ | refine reg (fun s => false) ?_ | (apply drwE mixed (fun s => false); (kernel_rfl)) | refine fin ?_ | refine Awp.ret ?_ | refine Awp.exit ?_ | ((first | (apply off; (exact rfl)) | apply condF); (first | (focus (simp only [go_sem, ↓reduceIte, simprocAttr, h8, h7, h6, h3, hxc] <;> rfl)) | exact rfl)))
    all_goals first | (exfalso; omega) | skip
    · rename_i he
      refine ⟨i + 1, ⟨by omega, ?_, ?_, ?_, ?_, rfl, ?_⟩, by omega⟩
      · simp only [go_sem, ↓reduceIte, simprocAttr, wsucc hlt hm]
      · simp only [go_sem, ↓reduceIte, simprocAttr, h7]
      · simp only [go_sem, ↓reduceIte, simprocAttr, h6]
      · simp only [go_sem, ↓reduceIte, simprocAttr, h3]
      · rw [ho, if_neg (by simpa using he)]
    · rename_i hne
      rw [ho, if_pos hne]; rfl
  · repeat' (first | refine spD (fun _ => ?_) (fun _ => ?_) | refine spF (fun _ => ?_) (fun _ => ?_) | (apply gT; (exact rfl)) | (apply off; (exact rfl); (exact rfl)) | (apply condT; (exact rfl)) | (apply condF; (exact rfl)) | ((first | (apply stp0; (exact rfl); (exact rfl)) | (apply stpN0; (exact rfl)) | apply gT | apply condT | ((first | apply bodyQ_d0 | apply bodyQ_d1 | apply bodyQ_d2 | apply bodyQ_d3 | apply bodyQ_d4); (exact .inr rfl); (rw [Try.results92]))); (first | (focus (simp only [go_sem, ↓reduceIte, simprocAttr, h8, h7, h6, h3] <;> rfl)) | exact rfl); (first | (fail_if_success (show okD _ _ _ _ _ _ _ _ _)) | (first | exact okT | exact okN | exact okE rfl)); (first | (fail_if_success (show Bel _ _)) | (focus first | exact .val _ | (simp [oneOf, Bel_iff_tup, Bel_iff_agg, Bel_iff_rsl, Bel_iff_fn, Bel_iff_rptr, Bel_val]; done)))) | refine thenQ_n ?_ | refine thenQ_r ?_ | refine thenQ_e ?_ | refine blockQ_n ?_ | refine blockQ_r ?_ | refine blockQ_e ?_ | (apply blockQ_o; (exact rfl)) | refine Awp.seq ?_ | refine Awp.skip ?_ | refine Awp.block ?_ | refine reg (fun s => false) ?_ | (apply drwE mixed (fun s => false); (kernel_rfl)) | refine fin ?_ | refine Awp.ret ?_ | refine Awp.exit ?_ | ((first | (apply off; (exact rfl)) | apply condF); (first | (focus (simp only [go_sem, ↓reduceIte, simprocAttr, h8, h7, h6, h3] <;> rfl)) | exact rfl)))
    all_goals first | (exfalso; omega) | skip
    rw [ho, List.drop_of_length_le (by omega)]; rfl

/-- less important -/
def lessR (a b : Item) : Prop := a.cls < b.cls ∨ (a.cls = b.cls ∧ (a.made < b.made ∨ (a.made = b.made ∧ a.id > b.id)))
instance (a b : Item) : Decidable (lessR a b) := by unfold lessR; infer_instance

def cmpR (a b : Item) : Int := orL [sgn b.cls a.cls, sgn b.made a.made, sgn a.id b.id]
theorem cmpR_pos {a b : Item} : cmpR a b > 0 ↔ lessR a b := by
  unfold cmpR lessR orL orL orL orL sgn
  repeat' split
  all_goals omega

theorem compare_ok (H : Hp) (a b : Item) : CallsTo Try.prog 52 [.agg a.cs, .agg b.cs] H (iv (cmpR a b)) H := by
  refine ACalls.of_body Try.func52 rfl (by kernel_rfl) (by rw [Try.ntmps52]; simp) ?_; rw [Try.ntmps52]
  repeat' (first | refine spD (fun _ => ?_) (fun _ => ?_) | refine spF (fun _ => ?_) (fun _ => ?_) | (apply gT; (exact rfl)) | (apply off; (exact rfl); (exact rfl)) | (apply condT; (exact rfl)) | (apply condF; (exact rfl)) | ((first | (apply stp0; (exact rfl); (exact rfl)) | (apply stpN0; (exact rfl)) | apply gT | apply condT | ((first | apply bodyQ_d0 | apply bodyQ_d1 | apply bodyQ_d2 | apply bodyQ_d3 | apply bodyQ_d4); (exact .inr rfl); (rw [Try.results52]))); (first | (focus (simp only [go_sem, ↓reduceIte, simprocAttr, Item.cs] <;> rfl)) | exact rfl); (first | (fail_if_success (show okD _ _ _ _ _ _ _ _ _)) | (first | exact okT | exact okN | exact okE rfl)); (first | (fail_if_success (show Bel _ _)) | (focus first | exact .val _ | (simp [oneOf, Bel_iff_tup, Bel_iff_agg, Bel_iff_rsl, Bel_iff_fn, Bel_iff_rptr, Bel_val]; done)))) | (apply calTo0; (exact rfl); (iterate 2 (simp only [go_sem, ↓reduceIte, simprocAttr, Item.cs]; rfl)); (first | exact cmp_ok _ _ _ | exact cmpI_ok _ _ _ | exact orI_ok _ [sgn b.cls a.cls, sgn b.made a.made, sgn a.id b.id] _ (by simp [maxLen])); (first | exact okT | exact okN | exact okE rfl)) | refine thenQ_n ?_ | refine thenQ_r ?_ | refine thenQ_e ?_ | refine blockQ_n ?_ | refine blockQ_r ?_ | refine blockQ_e ?_ | (apply blockQ_o; (exact rfl)) | refine Awp.seq ?_ | refine Awp.skip ?_ | refine Awp.block ?_ | refine reg (fun s => false) ?_ | (apply drwE mixed (fun s => false); (kernel_rfl)) | refine fin ?_ | refine Awp.ret ?_ | refine Awp.exit ?_ | ((first | (apply off; (exact rfl)) | apply condF); (first | (focus (simp only [go_sem, ↓reduceIte, simprocAttr, Item.cs] <;> rfl)) | exact rfl)))
  all_goals rfl

theorem rLesser_ok (H : Hp) (a b : Item) : CallsTo Try.prog 53 [.agg a.cs, .agg b.cs] H (bv (decide (lessR a b))) H := by
  refine ACalls.of_body Try.func53 rfl (by kernel_rfl) (by rw [Try.ntmps53]; simp) ?_; rw [Try.ntmps53]
  repeat' (first | refine spD (fun _ => ?_) (fun _ => ?_) | refine spF (fun _ => ?_) (fun _ => ?_) | (apply gT; (exact rfl)) | (apply off; (exact rfl); (exact rfl)) | (apply condT; (exact rfl)) | (apply condF; (exact rfl)) | ((first | (apply stp0; (exact rfl); (exact rfl)) | (apply stpN0; (exact rfl)) | apply gT | apply condT | ((first | apply bodyQ_d0 | apply bodyQ_d1 | apply bodyQ_d2 | apply bodyQ_d3 | apply bodyQ_d4); (exact .inr rfl); (rw [Try.results53]))); (first | (focus (simp only [go_sem, ↓reduceIte, simprocAttr, Item.cs] <;> rfl)) | exact rfl); (first | (fail_if_success (show okD _ _ _ _ _ _ _ _ _)) | (first | exact okT | exact okN | exact okE rfl)); (first | (fail_if_success (show Bel _ _)) | (focus first | exact .val _ | (simp [oneOf, Bel_iff_tup, Bel_iff_agg, Bel_iff_rsl, Bel_iff_fn, Bel_iff_rptr, Bel_val]; done)))) | refine thenQ_n ?_ | refine thenQ_r ?_ | refine thenQ_e ?_ | refine blockQ_n ?_ | refine blockQ_r ?_ | refine blockQ_e ?_ | (apply blockQ_o; (exact rfl)) | refine Awp.seq ?_ | refine Awp.skip ?_ | refine Awp.block ?_ | refine reg (fun s => false) ?_ | (apply drwE mixed (fun s => false); (kernel_rfl)) | refine fin ?_ | refine Awp.ret ?_ | refine Awp.exit ?_ | ((first | (apply off; (exact rfl)) | apply condF); (first | (focus (simp only [go_sem, ↓reduceIte, simprocAttr, Item.cs] <;> rfl)) | exact rfl)))
  all_goals first
    | (rw [decide_eq_true (show lessR a b by unfold lessR; omega)]; rfl)
    | (rw [decide_eq_false (show ¬ lessR a b by unfold lessR; omega)]; rfl)

end Go.Proofs.Ytlhchnnfgppneaa.Ab
namespace Go.Proofs.Ytlhchnnfgppneaa.Ab
open Go Go.RowKit

variable {P : Program} {n : Nat} {rd : Option Nat} {ops : Array Oper} {mu : Nat → Bool} {Q : Exit → Env → Hp → Prop} {T : Env} {H : Hp}

def invOk (n : Nat) (ops : Array Oper) : Bool :=
  (List.range ops.size).all fun i => match ops[i]? with
    | none => false
    | some o => o.guard.isNone && dstOk n o.dst && o.after.all fun e => !Region.binds .any e || decide (e.on < i)

theorem invOk_spec (h : invOk n ops = true) {i : Nat} {o : Oper} (ho : ops[i]? = some o) : o.guard = none ∧ dstOk n o.dst = true ∧ ∀ e ∈ o.after, Region.binds .any e = true → e.on < i := by
  unfold invOk at h
  rw [List.all_eq_true] at h
  have := h i (List.mem_range.2 (Array.getElem?_eq_some_iff.1 ho).1)
  rw [ho] at this
  simp only [Bool.and_eq_true, Option.isNone_iff_eq_none] at this
  refine ⟨this.1.1, this.1.2, fun e he hb => ?_⟩
  have := Array.all_eq_true_iff_forall_mem.1 this.2 e he
  simpa [hb] using this

def RoomInvL (ops : Array Oper) (listed : Array Bool) (fuel : Nat) : Prop := ∀ S : List Nat, S.Nodup → (∀ i ∈ S, i < ops.size ∧ listed.getD i false = false) → S.length ≤ fuel

theorem readyInvL {listed : Array Bool} {i : Nat} (hsz : listed.size = ops.size) (hi : i ∈ Region.ready .any ops listed) :
    i < ops.size ∧ listed.getD i false = false ∧ ∃ o, ops[i]? = some o ∧ ∀ e ∈ o.after, Region.binds .any e = true → listed.getD e.on false = true := by
  rw [mem_ready] at hi
  obtain ⟨hli0, o, ho, hedges⟩ := hi
  have hlt : i < ops.size := (Array.getElem?_eq_some_iff.1 ho).1
  refine ⟨hlt, ?_, o, ho, hedges⟩
  rw [Array.getD_eq_getD_getElem?, Array.getElem?_eq_getElem (by omega), Option.getD_some] at hli0 ⊢
  exact hli0

theorem setInvL {listed : Array Bool} {i : Nat} (hsz : listed.size = ops.size) (hlt : i < ops.size) (j : Nat) : (listed.setIfInBounds i true).getD j false = setL (fun i => listed.getD i false) i j := by
  unfold setL
  by_cases hj : j = i
  · subst hj
    rw [if_pos rfl, Array.getD_eq_getD_getElem?, Array.getElem?_setIfInBounds, if_pos rfl, if_pos (by omega)]
    rfl
  · rw [if_neg hj, getD_set_ne _ (Ne.symm hj)]

def AllIx (φ : Nat → Oper → Prop) : Nat → List Oper → Prop
  | _, [] => True
  | k, o :: l => φ k o ∧ AllIx φ (k + 1) l
theorem AllIx.get {φ : Nat → Oper → Prop} : ∀ {l : List Oper} {k i : Nat} {o : Oper}, AllIx φ k l → l[i]? = some o → φ (k + i) o
  | [], k, i, o, _, h => by simp at h
  | x :: l, k, 0, o, hA, h => by simp at h; subst h; exact hA.1
  | x :: l, k, i + 1, o, hA, h => by
    have := AllIx.get hA.2 (i := i) (by simpa using h)
    rw [show k + (i + 1) = k + 1 + i by omega]; exact this

/-- one step of an order -/
def InvStep (P : Program) (mu : Nat → Bool) (I : (Nat → Bool) → Env → Hp → Prop) (i : Nat) (o : Oper) : Prop :=
  ∀ L T H, L i = false → (o.after.toList.all fun e => !Region.binds .any e || L e.on) = true → I L T H → ∃ v H', PerfTo P mu o T H v H' ∧ I (setL L i) (putA T o.dst v) H'

theorem inv_sound (hok : invOk n ops = true) {I : (Nat → Bool) → Env → Hp → Prop} (hs : AllIx (InvStep P mu I) 0 ops.toList) (hq : ∀ L T H, (∀ i, i < ops.size → L i = true) → I L T H → Q .normal T H)
    {base : Nat} {w0 : World} {r : Option Nat} {X : Exit → Act → World → Prop} {ds : List Deferred} {g0 : Gh}
    (hX : ∀ T' H' g' a' w', Q .normal T' H' → g0.le g' → Sim base w0 g' H' w' → TRel g' n T' a'.tmps → a'.defers = ds → X .normal a' w') :
    ∀ (fuel : Nat) (listed : Array Bool) (T : Env) (H : Hp) (g : Gh) (w : World) (a : Act), listed.size = ops.size → RoomInvL ops listed fuel → I (fun i => listed.getD i false) T H → g0.le g → Sim base w0 g H w → TRel g n T a.tmps → a.defers = ds →
      wpAnyIn (FR r) 0 P .any ops X fuel listed a w := by
  have hend : ∀ (fuel : Nat) (listed : Array Bool) (T : Env) (H : Hp) (g : Gh) (w : World) (a : Act), listed.size = ops.size → Region.ready .any ops listed = [] → I (fun i => listed.getD i false) T H → g0.le g → Sim base w0 g H w → TRel g n T a.tmps → a.defers = ds →
      wpAnyIn (FR r) 0 P .any ops X fuel listed a w := by
    intro fuel listed T H g w a hsz hr hI hg S hT hd
    refine wpAnyIn_done hr (hX T H g a w (hq _ _ _ (fun i => ?_) hI) hg S hT hd) _
    induction i using Nat.strongRecOn with
    | _ i ih =>
      intro hi
      cases hl : listed.getD i false with
      | true => rfl
      | false =>
        exfalso
        have ho : ops[i]? = some ops[i] := Array.getElem?_eq_getElem hi
        have : i ∈ Region.ready .any ops listed := by
          rw [mem_ready]
          refine ⟨?_, ops[i], ho, fun e he hb => ih e.on ((invOk_spec hok ho).2.2 e he hb) (by have := (invOk_spec hok ho).2.2 e he hb; omega)⟩
          rw [Array.getD_eq_getD_getElem?, Array.getElem?_eq_getElem (by omega), Option.getD_some] at hl ⊢
          exact hl
        rw [hr] at this; cases this
  intro fuel
  induction fuel with
  | zero =>
    intro listed T H g w a hsz hroom hI hg S hT hd
    refine hend 0 listed T H g w a hsz ?_ hI hg S hT hd
    cases hr : Region.ready .any ops listed with
    | nil => rfl
    | cons i rs =>
      have hi : i ∈ Region.ready .any ops listed := by rw [hr]; simp
      obtain ⟨h1, h2, _⟩ := readyInvL hsz hi
      have := hroom [i] (by simp) (by intro j hj; simp at hj; subst hj; exact ⟨h1, h2⟩)
      simp at this
  | succ fuel ih =>
    intro listed T H g w a hsz hroom hI hg S hT hd
    by_cases hr : Region.ready .any ops listed = []
    · exact hend _ listed T H g w a hsz hr hI hg S hT hd
    · refine wpAnyIn_all rfl hr fun i hi => ?_
      obtain ⟨hlt, hli, o, ho, hedges⟩ := readyInvL hsz hi
      obtain ⟨hgd, hdst, _⟩ := invOk_spec hok ho
      have hst := AllIx.get hs (i := i) (o := o) (by simpa using ho)
      rw [Nat.zero_add] at hst
      obtain ⟨v, H', hp, hI'⟩ := hst (fun i => listed.getD i false) T H hli (by
        rw [List.all_eq_true]
        intro e he
        cases hb : Region.binds .any e with
        | false => rfl
        | true => simpa using hedges e (by simpa using he) hb) hI
      unfold wpOpIn
      rw [ho]
      simp only
      rw [if_pos (by unfold Region.wanted; rw [hgd])]
      have hput : ∀ z, (a.put o.dst z).defers = a.defers := by intro z; cases o.dst <;> rfl
      refine hp.ok base w0 g w a r S (fun x _ => evA_rel hT x) _ _ (fun v1 z H1 g' w' hk hg' S' hR => ?_)
      obtain ⟨rfl, rfl⟩ := hk
      refine ih _ (putA T o.dst v1) H1 g' w' _ (by simpa using hsz) ?_ ?_ (hg.trans hg') S' ((hT.mono hg').put hdst hR) (by rw [hput]; exact hd)
      · intro Z hZ hk
        have := hroom (i :: Z) (List.nodup_cons.2 ⟨fun hm => by have := (hk i hm).2; rw [setInvL hsz hlt] at this; simp [setL] at this, hZ⟩) (fun k hkm => by
          rcases List.mem_cons.1 hkm with rfl | hkm
          · exact ⟨hlt, hli⟩
          · have h1 := hk k hkm
            refine ⟨h1.1, ?_⟩
            have h2 := h1.2
            rw [setInvL hsz hlt] at h2
            unfold setL at h2
            by_cases hki : k = i
            · rw [if_pos hki] at h2; cases h2
            · rw [if_neg hki] at h2; exact h2)
        simp at this
        omega
      · have e : (fun j => (listed.setIfInBounds i true).getD j false) = setL (fun j => listed.getD j false) i := funext fun j => setInvL hsz hlt j
        rw [e]; exact hI'

/-- a region that draws its order, by an invariant over what has been done -/
theorem Awp.anyInv {id : Nat} (hm : P.follows .mixedOrders = true) (mu : Nat → Bool) (I : (Nat → Bool) → Env → Hp → Prop) (hok : invOk n ops = true) (h0 : I (fun _ => false) T H) (hs : AllIx (InvStep P mu I) 0 ops.toList)
    (hq : ∀ L T H, (∀ i, i < ops.size → L i = true) → I L T H → Q .normal T H) : Awp P n rd (.region id ops true) T H Q := by
  intro base w0 g w a r S hT hr
  refine wpIn_region_any hm ?_
  refine inv_sound hok hs hq (g0 := g) (ds := a.defers) (fun T' H' g' a' w' hq hg' S' hT' hd => ⟨T', H', g', [], hq, hg', S', hT', hd, Marks.nil _ _⟩) ops.size (Array.replicate ops.size false) T H g _ a (by simp) ?_ ?_ (Gh.le.refl g) S.drew hT rfl
  · intro Z hZ hk
    exact nodup_le _ Z hZ fun k hk' => (hk k hk').1
  · have e : (fun i => (Array.replicate ops.size false).getD i false) = fun _ => false := by
      funext i
      rw [Array.getD_eq_getD_getElem?, Array.getElem?_replicate]
      split <;> rfl
    rw [e]; exact h0

/-- a region that draws its order but for its last operation, the one that may turn the heap at will -/
theorem drwL {id : Nat} (hm : P.follows .mixedOrders = true) (mu : Nat → Bool) (W : Draw) {l : Oper} (hl : ops.back? = some l) (hok : drawOk mu W ops.pop (Region.before ops.pop).toList = true) (hla : lastOk ops.pop l = true)
    (h : wpO P mu n (some W) [] ops.pop.toList T H (fun T' H' => wpO P mu n none (ops.pop.toList.map (·.dst)) [l] T' H' (Q .normal))) : Awp P n rd (.region id ops true) T H Q := by
  have e : ops = ops.pop.push l := by
    have hne : ops.size ≠ 0 := fun h0 => by
      have : ops = #[] := Array.eq_empty_of_size_eq_zero h0
      subst this; simp at hl
    rw [Array.back?_eq_getElem?] at hl
    obtain ⟨h1, h2⟩ := Array.getElem?_eq_some_iff.1 hl
    refine Array.ext (by simp; omega) fun i h3 h4 => ?_
    rw [Array.getElem_push]
    split
    · simp
    · rename_i h5
      have : i = ops.size - 1 := by simp at h5; omega
      subst this; exact h2
  rw [e]
  exact Awp.drawnLast hm mu W _ hok hla h

end Go.Proofs.Ytlhchnnfgppneaa.Ab
