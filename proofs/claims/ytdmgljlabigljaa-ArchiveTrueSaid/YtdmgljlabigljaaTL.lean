/- Archive: keys are sorted: slices.SortFunc. -/
import Derived.Test.YtdmgljlabigljaaTK
namespace Go.Proofs.Ytdmgljlabigljaa.Ab
open Go Go.RowKit Go.Proofs Go.Lib Go.Maps Go.Sort Go.Shelf
set_option linter.unusedSimpArgs false
set_option linter.unusedVariables false

def k3c (k : K3) : List AV := [.val (.int .i64 k.1), .val (.int .i64 k.2.1), .val (.int .i64 k.2.2)]
def k3s (l : List K3) : List (List AV) := l.map k3c
theorem k3s_len (l : List K3) : (k3s l).length = l.length := by simp [k3s]
theorem k3s_at {l : List K3} {i : Nat} {k : K3} (h : l[i]? = some k) : (k3s l)[i]? = some [.val (.int .i64 k.1), .val (.int .i64 k.2.1), .val (.int .i64 k.2.2)] := nthMap k3c h
theorem k3s_three (l : List K3) : ∀ e ∈ k3s l, e.length = 3 := by
  intro e he
  obtain ⟨r, _, rfl⟩ := List.mem_map.1 he
  rfl
def encK (k : K3) : List Value := [.int .i64 k.1, .int .i64 k.2.1, .int .i64 k.2.2]
theorem k3_enc (k : K3) : k3c k = (encK k).map AV.val := rfl
theorem cmpLays36 (blk off size : Nat) (w : World) : CmpLays Try.prog 36 #[] encK 3 cfK blk off size w :=
  fun _ _ _ _ x y => cf36W x y _
theorem lt_key (x y : K3) : ltOf cfK x y = decide (ltK x y) := by
  unfold ltOf cfK or3 sgn ltK
  congr 1
  refine propext ?_
  repeat' split
  all_goals omega
theorem swoKey : SWO (ltOf cfK) where
  irrefl x := by rw [lt_key]; simp [ltK_irr]
  trans x y z h1 h2 := by rw [lt_key] at *; simp at *; exact ltK_tr h1 h2
  ntrans x y z h1 h2 := by rw [lt_key] at *; simp at *; unfold ltK at *; omega

theorem two_args {g : Gh} {x y : AV} {vs : Array Value} (hr : RCells g [x, y] vs) : ∃ v0 v1, vs = #[v0, v1] ∧ R g x v0 ∧ R g y v1 := by
  have hs := hr.size
  match vs, hs, hr with
  | ⟨[v0, v1]⟩, _, hr => exact ⟨v0, v1, rfl, hr.cell 0 _ _ rfl rfl, hr.cell 1 _ _ rfl rfl⟩

theorem sort35_ok (H : Hp) (L : List K3) {b : Nat} {t : TypeId} (hn : 0 < L.length) (hlen : L.length ≤ 4096) (hb : H[b]? = some (.cells (k3s L) t)) (hd0 : L.Nodup) :
    ACalls Try.prog 35 [.msl b 0 L.length, .fn (.func 36) []] H fun v1 H1 => v1 = .val (.tuple #[]) ∧ ∃ L', L'.Perm L ∧ L'.Pairwise ltK ∧ H1 = H.set b (.cells (k3s L') t) := by
  refine ⟨by kernel_rfl, fun base w0 g w vs S hr => ?_⟩
  obtain ⟨v0, v1, rfl, h0, hk⟩ := two_args hr
  have hk' : v1 = .func (.func 36) #[] #[] := by
    cases hk with
    | fn hy hl hr2 =>
      rename_i vs
      have : vs = #[] := by apply Array.eq_empty_of_size_eq_zero; simpa using hl.symm
      rw [this]
  subst hk'
  cases h0 with
  | msl hx hl hc hm =>
    rename_i x cap
    obtain ⟨y, o, q1, q2, q3⟩ := S.obj b _ hb (by simp)
    rw [hx] at q1; cases q1
    cases q3 with
    | cells hs1 hl1 hk1 hr1 =>
      rename_i cur
      have hlt : x < w.heap.size := (S.pos b x hx).2
      obtain ⟨c0, hc0⟩ := nth hn
      have hks : g.ks b = 3 := (hk1 0 _ (k3s_at hc0)).symm
      rw [hks] at hs1 hr1
      have hcell : ∀ (i : Nat) (c : K3), L[i]? = some c → ∀ (j : Nat) (v : Value), (encK c)[j]? = some v → cur[i * 3 + j]? = some v := fun i c hi j v hj => by
        obtain ⟨u, hu, hR⟩ := hr1 i (k3c c) j (.val v) (nthMap k3c hi) (by rw [k3_enc, List.getElem?_map, hj]; rfl)
        cases hR
        exact hu
      have hd : L.toArray.size = L.length := by simp
      have hH : HoldsK encK 3 w x 0 L.toArray := fun k hk => by
        rw [size_flatK, hd] at hk
        have hk3 : k / 3 < L.length := by omega
        have hm3 : k % 3 < 3 := by omega
        obtain ⟨c, hcc⟩ := nth hk3
        obtain ⟨u, hu⟩ := nth (l := encK c) (i := k % 3) hm3
        have h1 := hcell _ c hcc _ u hu
        rw [show k / 3 * 3 + k % 3 = k by omega] at h1
        have h2 : (flatK encK 3 L.toArray)[k]! = u := by
          rw [get_flatK _ _ _ _ (by rw [hd]; exact hk)]
          have e : L.toArray[k / 3]! = c := by
            rw [getElem!_pos L.toArray _ (by rw [hd]; exact hk3)]
            simpa using (List.getElem?_eq_some_iff.1 hcc).2
          rw [e, getElem!_pos (encK c) _ (show k % 3 < (encK c).length from hm3)]
          exact (List.getElem?_eq_some_iff.1 hu).2
        rw [h2]
        refine ⟨?_, ?_⟩
        · rw [cell_of_cells q2, Nat.zero_add]; exact h1
        · simp [World.frozen?, q2]
      have hC := AnyQ.slices_SortFunc sortF_lay 3 Try.isAgg77 Try.sizeOf77 encK (fun _ => rfl) (fun x v hv => by simp [encK] at hv; rcases hv with rfl | rfl | rfl <;> rfl) cfK swoKey 36 #[] x 0 cap L.toArray w
        (fun args w => by kernel_rfl) (cmpLays36 x 0 _ w) hH hlt (by rw [hd]; omega)
      rw [hd] at hC
      rw [Nat.zero_mul]
      refine callsIn_wide.2 (hC.mono fun e w' ⟨he, d', n, os, hp, hs, hw⟩ => ?_)
      subst hw
      have hdz : d'.size = L.length := by rw [hp.1, hd]
      have hperm : d'.toList.Perm L := by
        have := hp.2.2
        have e1 : d'.extract 0 L.length = d' := by rw [← hdz]; simp
        have e2 : L.toArray.extract 0 L.length = L.toArray := by rw [← hd]; simp
        rw [e1, e2] at this
        simpa using this
      have hsz : d'.toList.Pairwise ltK := by
        rw [List.pairwise_iff_getElem]
        intro i j h1 h2 hij
        have := hs i j (Nat.zero_le _) hij (by simpa [hdz] using h2)
        rw [lt_key] at this
        simp only [Array.length_toList] at h1 h2
        rw [getElem!_pos d' i h1, getElem!_pos d' j h2] at this
        have h3 : ¬ ltK d'[j] d'[i] := by simpa using this
        have hne : d'[j] ≠ d'[i] := fun h => by
          have hn2 := hperm.nodup_iff.2 hd0
          exact List.pairwise_iff_getElem.1 hn2 i j (by simpa using h1) (by simpa using h2) hij (by simpa using h.symm)
        simpa using ltK_tot hne h3
      unfold sortWorldK putRowK
      have hg : w.grownBy (grow (putRow id (Sort.ahead w n) x 0 (flatK encK 3 d')) os) (some x) := by
        refine ⟨rfl, rfl, rfl, by simp, fun k hk hne => ?_⟩
        rw [heap_grow_old _ _ (by simpa using hk)]
        simp only [putRow, mapBlock, heap_ahead, Array.getElem?_modify]
        rw [if_neg (fun e => hne (by rw [e]))]
      have ho : (grow (putRow id (Sort.ahead w n) x 0 (flatK encK 3 d')) os).heap[x]? = some (.cells (putCells id 0 (flatK encK 3 d') cur) t (0, 0)) := by
        rw [heap_grow_old _ _ (by simpa using hlt)]
        simp only [putRow, mapBlock, heap_ahead, Array.getElem?_modify, if_true, q2, Option.map_some, onCells]
      have S' := S.turn (ob' := .cells (k3s d'.toList) t) hb (by simp) hx hg ho (.cells (by simp [putCells, hs1, hks]) (by rw [k3s_len, Array.length_toList, hdz, ← k3s_len L]; exact hl1) (fun i e he => ?_) (fun i e j c he hc' => ?_))
      · exact ⟨_, _, _, g, he, ⟨rfl, _, hperm, hsz, rfl⟩, Gh.le.refl g, S', .val _⟩
      · rw [hks]; exact k3s_three _ _ (List.mem_of_getElem? he)
      · rw [hks]
        have hi : i < d'.size := by have := (List.getElem?_eq_some_iff.1 he).1; rwa [k3s_len, Array.length_toList] at this
        have hci : d'.toList[i]? = some d'[i] := by simp [hi]
        have he2 := nthMap k3c hci
        have he3 : k3s d'.toList = d'.toList.map k3c := rfl
        rw [he3, he2] at he
        cases he
        rw [k3_enc, List.getElem?_map] at hc'
        cases hv : (encK d'[i])[j]? with
        | none => rw [hv] at hc'; cases hc'
        | some v =>
          rw [hv] at hc'
          cases hc'
          have hj : j < 3 := (List.getElem?_eq_some_iff.1 hv).1
          refine ⟨v, ?_, .val _⟩
          obtain ⟨cc, hcc⟩ := nth (l := L) (i := i) (by omega)
          obtain ⟨u, hu⟩ := nth (l := encK cc) (i := j) hj
          have hcu := hcell i cc hcc j u hu
          have hlt3 : i * 3 + j < d'.size * 3 := by omega
          simp only [putCells, Array.getElem?_mapIdx, hcu, Option.map_some, size_flatK]
          rw [if_pos ⟨Nat.zero_le _, by omega⟩, Nat.sub_zero, get_flatK _ _ _ _ hlt3, show (i * 3 + j) / 3 = i by omega, show (i * 3 + j) % 3 = j by omega, getElem!_pos d' i hi, getElem!_pos (encK d'[i]) j hj]
          exact congrArg some (List.getElem?_eq_some_iff.1 hv).2

/-! ### nothing to sort -/
theorem len59W (W : World) : Calls Try.prog 59 #[.int .u64 0] W fun e w' => e = .returned (.int .i64 0) ∧ w' = W := by
  have t9 := Try.underlying9; have t110 := Try.underlying110; have t5 := Try.underlying5; have t3 := Try.underlying3
  go_enter Try.func59, Try.ntmps59
  go_wp2
  go_ret
  exact ⟨by kernel_rfl, rfl⟩
theorem len46W (W : World) : Calls Try.prog 46 #[.int .u64 0] W fun e w' => e = .returned (.int .i64 0) ∧ w' = W := by
  go_enter Try.func46, Try.ntmps46
  go_wp2_with (go_at_call 59; refine (len59W _).mono ?_; rintro e w' ⟨rfl, rfl⟩)
  go_ret
  exact ⟨rfl, rfl⟩
theorem ins50W (f : Value) (W : World) : Calls Try.prog 50 #[.slice none 0 0, .int .i64 0, .int .i64 0, f] W fun e w' => e = .returned (.tuple #[]) ∧ w' = W := by
  have t3 := Try.underlying3
  go_enter Try.func50, Try.ntmps50
  go_wp2
  refine wp_loop_rounds 1 ?_
  rw [rounds_succ]
  go_wp2
  first | exact bodyPost_end (results_none rfl _ _ _) rfl ⟨rfl, rfl⟩ | exact bodyPost_ret (results_none rfl _ _ _) rfl ⟨rfl, rfl⟩
theorem pdq45W (f : Value) (W : World) : Calls Try.prog 45 #[.slice none 0 0, .int .i64 0, .int .i64 0, .int .i64 0, f] W fun e w' => e = .returned (.tuple #[]) ∧ w' = W := by
  have t3 := Try.underlying3
  go_enter Try.func45, Try.ntmps45
  go_wp2
  refine wp_loop_rounds 1 ?_
  rw [rounds_succ]
  go_wp2_with (go_at_call 50; refine (ins50W _ _).mono ?_; rintro e w' ⟨rfl, rfl⟩)
  first | exact bodyPost_end (results_none rfl _ _ _) rfl ⟨rfl, rfl⟩ | exact bodyPost_ret (results_none rfl _ _ _) rfl ⟨rfl, rfl⟩
theorem sort35W (f : Value) (W : World) : Calls Try.prog 35 #[.slice none 0 0, f] W fun e w' => e = .returned (.tuple #[]) ∧ w' = W := by
  have t3 := Try.underlying3; have t83 := Try.underlying83; have t95 := Try.underlying95
  go_enter Try.func35, Try.ntmps35
  go_wp2_with (first
    | (go_at_call 46; refine (len46W _).mono ?_; rintro e w' ⟨rfl, rfl⟩)
    | (go_at_call 45; refine (pdq45W _ _).mono ?_; rintro e w' ⟨rfl, rfl⟩))
  first | exact bodyPost_end (results_none rfl _ _ _) rfl ⟨rfl, rfl⟩ | exact bodyPost_ret (results_none rfl _ _ _) rfl ⟨rfl, rfl⟩
theorem sortNil_ok (H : Hp) : ACalls Try.prog 35 [nilS, .fn (.func 36) []] H fun v1 H1 => v1 = .val (.tuple #[]) ∧ H1 = H := by
  refine ⟨by kernel_rfl, fun base w0 g w vs S hr => ?_⟩
  obtain ⟨v0, v1, rfl, h0, hk⟩ := two_args hr
  cases h0
  refine callsIn_wide.2 ((sort35W v1 w).mono fun e w' ⟨he, hw⟩ => ?_)
  subst hw
  exact ⟨_, _, H, g, he, ⟨rfl, rfl⟩, Gh.le.refl g, S, .val _⟩

end Go.Proofs.Ytdmgljlabigljaa.Ab
