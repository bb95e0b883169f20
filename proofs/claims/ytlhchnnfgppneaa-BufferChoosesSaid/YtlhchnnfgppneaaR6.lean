/- Best: sorting choices by size: how the library compares two, at world level; the contract of slices.SortFunc. -/
import Derived.Test.YtlhchnnfgppneaaR5
import Derived.Test.YtlhchnnfgppneaaR4
import Derived.WalkKit
import Derived.LoopN
import Derived.Shelf.RegionOpenPlain
namespace Go.Proofs.Ytlhchnnfgppneaa.Ab
open Go Go.RowKit Go.Proofs Go.Lib Go.Maps Go.Sort Go.Shelf
set_option linter.unusedSimpArgs false
set_option linter.unusedVariables false

instance : Inhabited Ch := ⟨⟨0, 0, 0⟩⟩
def encC (c : Ch) : List Value := [.int .u32 (c.bits : Nat), .int .i64 c.worth, .int .i64 c.size]
theorem cs_enc (c : Ch) : c.cs = (encC c).map AV.val := rfl

theorem nanW (x : Int) (W : World) : Calls Try.prog 110 #[.int .i64 x] W fun e w' => e = .returned (.bool false) ∧ w' = W := by
  go_enter Try.func110, Try.ntmps110
  go_wp2
  go_ret
  all_goals simp
theorem cmpW (x y : Int) (W : World) : Calls Try.prog 83 #[.int .i64 x, .int .i64 y] W fun e w' => e = .returned (.int .i64 (sgn x y)) ∧ w' = W := by
  unfold sgn
  by_cases h1 : x < y
  · rw [if_pos h1]
    go_enter Try.func83, Try.ntmps83
    go_wp2_with (go_at_call 110; refine (nanW _ _).mono ?_; rintro e w' ⟨rfl, rfl⟩)
    go_ret
    exact ⟨rfl, rfl⟩
  · rw [if_neg h1]
    by_cases h2 : x > y
    · rw [if_pos h2]
      go_enter Try.func83, Try.ntmps83
      go_wp2_with (go_at_call 110; refine (nanW _ _).mono ?_; rintro e w' ⟨rfl, rfl⟩)
      go_ret
      exact ⟨rfl, rfl⟩
    · rw [if_neg h2]
      go_enter Try.func83, Try.ntmps83
      go_wp2_with (go_at_call 110; refine (nanW _ _).mono ?_; rintro e w' ⟨rfl, rfl⟩)
      go_ret
      exact ⟨rfl, rfl⟩

set_option maxHeartbeats 1000000 in
set_option maxRecDepth 100000 in
theorem closeW (x y : Ch) (W : World) : Calls Try.prog 82 #[.agg #[.int .u32 (x.bits : Nat), .int .i64 x.worth, .int .i64 x.size], .agg #[.int .u32 (y.bits : Nat), .int .i64 y.worth, .int .i64 y.size]] W fun e w' => e = .returned (.int .i64 (sgn x.size y.size)) ∧ ∃ q os', w' = grow (W.drewN q) os' := by
  have t2 := Try.underlying2; have t3 := Try.underlying3; have t145 := Try.underlying145
  have a2 := Try.isAgg2; have a3 := Try.isAgg3; have z3 := Try.sizeOf3; have z2 := Try.sizeOf2; have a145 := Try.isAgg145; have z145 := Try.sizeOf145
  have hcon := fun W' => cmpW x.size y.size W'
  generalize sgn x.size y.size = r at hcon ⊢
  go_enter Try.func82, Try.ntmps82
  go_wp2_with (go_at_call 83; refine (hcon _).mono ?_; rintro e w' ⟨rfl, rfl⟩)
  go_ret
  exact ⟨rfl, 0, _, by rw [alloc_eq_grow, alloc_eq_grow, grow_grow]; rfl⟩

theorem cmpLays82 (blk off size : Nat) (w : World) : CmpLays Try.prog 82 #[] encC 3 (fun x y : Ch => sgn x.size y.size) blk off size w :=
  fun _ _ _ _ x y => closeW x y _

theorem lt_size (x y : Ch) : ltOf (fun x y : Ch => sgn x.size y.size) x y = decide (x.size < y.size) := by
  unfold ltOf sgn
  by_cases h1 : x.size < y.size
  · simp [h1]
  · by_cases h2 : x.size > y.size <;> simp [h1, h2]
theorem swoSize : SWO (ltOf fun x y : Ch => sgn x.size y.size) where
  irrefl x := by rw [lt_size]; simp
  trans x y z h1 h2 := by rw [lt_size] at *; simp at *; omega
  ntrans x y z h1 h2 := by rw [lt_size] at *; simp at *; omega

theorem two_args {g : Gh} {x y : AV} {vs : Array Value} (hr : RCells g [x, y] vs) : ∃ v0 v1, vs = #[v0, v1] ∧ R g x v0 ∧ R g y v1 := by
  have hs := hr.size
  match vs, hs, hr with
  | ⟨[v0, v1]⟩, _, hr => exact ⟨v0, v1, rfl, hr.cell 0 _ _ rfl rfl, hr.cell 1 _ _ rfl rfl⟩

theorem sort81_ok (H : Hp) (L : List Ch) {b : Nat} {t : TypeId} (hn : 0 < L.length) (hlen : L.length ≤ 4096) (hb : H[b]? = some (.cells (chs L) t)) :
    ACalls Try.prog 81 [.msl b 0 L.length, .fn (.func 82) []] H fun v1 H1 => v1 = .val (.tuple #[]) ∧ ∃ L', L'.Perm L ∧ SrtZ L' ∧ H1 = H.set b (.cells (chs L') t) := by
  refine ⟨by kernel_rfl, fun base w0 g w vs S hr => ?_⟩
  obtain ⟨v0, v1, rfl, h0, hk⟩ := two_args hr
  have hk' : v1 = .func (.func 82) #[] #[] := by
    cases hk with
    | fn hy hl hr2 =>
      rename_i vs
      have : vs = #[] := by apply Array.eq_empty_of_size_eq_zero; simpa using hl.symm
      rw [this]
  subst hk'
  cases h0 with
  | msl hx hl hc hm =>
    rename_i x cap
    obtain ⟨y, o, q1, q2, q3⟩ := S.obj b _ hb (by simp)
    rw [hx] at q1; cases q1
    cases q3 with
    | cells hs1 hl1 hk1 hr1 =>
      rename_i cur
      have hlt : x < w.heap.size := (S.pos b x hx).2
      obtain ⟨c0, hc0⟩ := nth hn
      have hks : g.ks b = 3 := (hk1 0 _ (chs_at hc0)).symm
      rw [hks] at hs1 hr1
      have hcell : ∀ (i : Nat) (c : Ch), L[i]? = some c → ∀ (j : Nat) (v : Value), (encC c)[j]? = some v → cur[i * 3 + j]? = some v := fun i c hi j v hj => by
        obtain ⟨u, hu, hR⟩ := hr1 i c.cs j (.val v) (nthMap Ch.cs hi) (by rw [cs_enc, List.getElem?_map, hj]; rfl)
        cases hR
        exact hu
      have hd : L.toArray.size = L.length := by simp
      have hH : HoldsK encC 3 w x 0 L.toArray := fun k hk => by
        rw [size_flatK, hd] at hk
        have hk3 : k / 3 < L.length := by omega
        have hm3 : k % 3 < 3 := by omega
        obtain ⟨c, hcc⟩ := nth hk3
        obtain ⟨u, hu⟩ := nth (l := encC c) (i := k % 3) hm3
        have h1 := hcell _ c hcc _ u hu
        rw [show k / 3 * 3 + k % 3 = k by omega] at h1
        have h2 : (flatK encC 3 L.toArray)[k]! = u := by
          rw [get_flatK _ _ _ _ (by rw [hd]; exact hk)]
          have e : L.toArray[k / 3]! = c := by
            rw [getElem!_pos L.toArray _ (by rw [hd]; exact hk3)]
            simpa using (List.getElem?_eq_some_iff.1 hcc).2
          rw [e, getElem!_pos (encC c) _ (show k % 3 < (encC c).length from hm3)]
          exact (List.getElem?_eq_some_iff.1 hu).2
        rw [h2]
        refine ⟨?_, ?_⟩
        · rw [cell_of_cells q2, Nat.zero_add]; exact h1
        · simp [World.frozen?, q2]
      have hC := AnyQ.slices_SortFunc sortF_lay 3 Try.isAgg145 Try.sizeOf145 encC (fun _ => rfl) (fun x v hv => by simp [encC] at hv; rcases hv with rfl | rfl | rfl <;> rfl) (fun x y : Ch => sgn x.size y.size) swoSize 82 #[] x 0 cap L.toArray w
        (fun args w => by kernel_rfl) (cmpLays82 x 0 _ w) hH hlt (by rw [hd]; omega)
      rw [hd] at hC
      rw [Nat.zero_mul]
      refine callsIn_wide.2 (hC.mono fun e w' ⟨he, d', n, os, hp, hs, hw⟩ => ?_)
      subst hw
      have hdz : d'.size = L.length := by rw [hp.1, hd]
      have hperm : d'.toList.Perm L := by
        have := hp.2.2
        have e1 : d'.extract 0 L.length = d' := by rw [← hdz]; simp
        have e2 : L.toArray.extract 0 L.length = L.toArray := by rw [← hd]; simp
        rw [e1, e2] at this
        simpa using this
      have hsz : SrtZ d'.toList := by
        unfold SrtZ
        rw [List.pairwise_iff_getElem]
        intro i j h1 h2 hij
        have := hs i j (Nat.zero_le _) hij (by simpa [hdz] using h2)
        rw [lt_size] at this
        simp only [Array.length_toList] at h1 h2
        rw [getElem!_pos d' i h1, getElem!_pos d' j h2] at this
        simp at this
        simpa using this
      unfold sortWorldK putRowK
      have hg : w.grownBy (grow (putRow id (Sort.ahead w n) x 0 (flatK encC 3 d')) os) (some x) := by
        refine ⟨rfl, rfl, rfl, by simp, fun k hk hne => ?_⟩
        rw [heap_grow_old _ _ (by simpa using hk)]
        simp only [putRow, mapBlock, heap_ahead, Array.getElem?_modify]
        rw [if_neg (fun e => hne (by rw [e]))]
      have ho : (grow (putRow id (Sort.ahead w n) x 0 (flatK encC 3 d')) os).heap[x]? = some (.cells (putCells id 0 (flatK encC 3 d') cur) t (0, 0)) := by
        rw [heap_grow_old _ _ (by simpa using hlt)]
        simp only [putRow, mapBlock, heap_ahead, Array.getElem?_modify, if_true, q2, Option.map_some, onCells]
      have S' := S.turn (ob' := .cells (chs d'.toList) t) hb (by simp) hx hg ho (.cells (by simp [putCells, hs1, hks]) (by rw [chs_len, Array.length_toList, hdz, ← chs_len L]; exact hl1) (fun i e he => ?_) (fun i e j c he hc' => ?_))
      · exact ⟨_, _, _, g, he, ⟨rfl, _, hperm, hsz, rfl⟩, Gh.le.refl g, S', .val _⟩
      · rw [hks]; exact chs_three _ _ (List.mem_of_getElem? he)
      · rw [hks]
        have hi : i < d'.size := by have := (List.getElem?_eq_some_iff.1 he).1; rwa [chs_len, Array.length_toList] at this
        have hci : d'.toList[i]? = some d'[i] := by simp [hi]
        have he2 := nthMap Ch.cs hci
        have he3 : chs d'.toList = d'.toList.map Ch.cs := rfl
        rw [he3, he2] at he
        cases he
        rw [cs_enc, List.getElem?_map] at hc'
        cases hv : (encC d'[i])[j]? with
        | none => rw [hv] at hc'; cases hc'
        | some v =>
          rw [hv] at hc'
          cases hc'
          have hj : j < 3 := (List.getElem?_eq_some_iff.1 hv).1
          refine ⟨v, ?_, .val _⟩
          obtain ⟨cc, hcc⟩ := nth (l := L) (i := i) (by omega)
          obtain ⟨u, hu⟩ := nth (l := encC cc) (i := j) hj
          have hcu := hcell i cc hcc j u hu
          have hlt3 : i * 3 + j < d'.size * 3 := by omega
          simp only [putCells, Array.getElem?_mapIdx, hcu, Option.map_some, size_flatK]
          rw [if_pos ⟨Nat.zero_le _, by omega⟩, Nat.sub_zero, get_flatK _ _ _ _ hlt3, show (i * 3 + j) / 3 = i by omega, show (i * 3 + j) % 3 = j by omega, getElem!_pos d' i hi, getElem!_pos (encC d'[i]) j hj]
          exact congrArg some (List.getElem?_eq_some_iff.1 hv).2

end Go.Proofs.Ytlhchnnfgppneaa.Ab
