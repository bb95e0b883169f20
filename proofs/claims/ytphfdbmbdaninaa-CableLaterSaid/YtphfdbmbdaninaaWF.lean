/- Sorting a row of one's own. -/
import Derived.Test.YtphfdbmbdaninaaW9
namespace Go.Proofs.Ytphfdbmbdaninaa.Ab
open Go Go.RowKit Go.Proofs Go.Maps Go.Sort Go.Shelf
set_option linter.unusedSimpArgs false
set_option linter.unusedVariables false

theorem sortOwn_ok (H : Hp) {b : Nat} {v : List Int} {t : TypeId} (hb : H[b]? = some (.cells (ints v) t)) (hlen : v.length < 4611686018427387904) :
    CallsTo Try.prog 113 [.msl b 0 v.length] H (.val (.tuple #[])) (H.set b (.cells (ints (sortS v)) t)) := by
  refine ⟨by kernel_rfl, fun base w0 g w vs S hr => ?_⟩
  obtain ⟨v0, rfl, h0⟩ := one_arg hr
  cases h0 with
  | msl hx hl hc hm =>
    rename_i x cap
    obtain ⟨y, o, q1, q2, q3⟩ := S.obj b _ hb (by simp)
    rw [hx] at q1; cases q1
    have q3' := q3
    cases q3 with
    | cells hs1 hl1 hk1 hr1 =>
      rename_i cur
      have hxlt := (S.pos b x hx).2
      have hlt : x < w.heap.size := hxlt
      -- an element is one cell
      have hks : v ≠ [] → g.ks b = 1 := fun hne => by
        cases v with
        | nil => exact absurd rfl hne
        | cons a l => exact (hk1 0 [iv a] rfl).symm
      have hcur : ∀ i a, v[i]? = some a → cur[i]? = some (Value.int .i64 a) := fun i a h => by
        have h1 : (ints v)[i]? = some [iv a] := nthMap (fun x => [iv x]) h
        obtain ⟨u, hu, hR⟩ := hr1 i _ 0 _ h1 rfl
        cases hR
        have hne : v ≠ [] := by rintro rfl; simp at h
        rw [hks hne] at hu
        simpa using hu
      have hH : Holds (Value.int .i64) w x 0 v.toArray := fun j hj => by
        have hj' : j < v.length := by simpa using hj
        have h1 := hcur j v[j] (List.getElem?_eq_getElem hj')
        have e : (v.toArray)[j]! = v[j] := by simp [hj']
        rw [e]
        refine ⟨?_, ?_⟩
        · rw [cell_of_cells q2, Nat.zero_add]; exact h1
        · simp [World.frozen?, q2]
      have hC := AnyM.slices_Sort_int sort_lay x 0 cap v w hH hlt hlen
      rw [sortS_eq] at hC
      rw [Nat.zero_mul]
      refine callsIn_wide.2 (hC.mono fun e w' ⟨he, n, os, hw⟩ => ?_)
      subst hw
      have hg : w.grownBy (grow (putRow (Value.int .i64) (Sort.ahead w n) x 0 (sortS v).toArray) os) (some x) := by
        refine ⟨rfl, rfl, rfl, by simp, fun k hk hne => ?_⟩
        rw [heap_grow_old _ _ (by simpa using hk)]
        simp only [putRow, mapBlock, heap_ahead, Array.getElem?_modify]
        rw [if_neg (fun e => hne (by rw [e]))]
      have ho : (grow (putRow (Value.int .i64) (Sort.ahead w n) x 0 (sortS v).toArray) os).heap[x]? = some (.cells (putCells (Value.int .i64) 0 (sortS v).toArray cur) t (0, 0)) := by
        rw [heap_grow_old _ _ (by simpa using hlt)]
        simp only [putRow, mapBlock, heap_ahead, Array.getElem?_modify, if_true, q2, Option.map_some, onCells]
      have S' := S.turn (ob' := .cells (ints (sortS v)) t) hb (by simp) hx hg ho (.cells (by simp [putCells, hs1]) (by rw [ints_len, sortS_length, ← ints_len v]; exact hl1) (fun i e he => ?_) (fun i e j c he hc' => ?_))
      · exact ⟨_, _, _, g, he, ⟨rfl, rfl⟩, Gh.le.refl g, S', .val _⟩
      · have hne : v ≠ [] := by
          rintro rfl
          simp [sortS, ints] at he
        obtain ⟨a, _, rfl⟩ := List.mem_map.1 (List.mem_of_getElem? he)
        rw [hks hne]; rfl
      · have hne : v ≠ [] := by
          rintro rfl
          simp [sortS, ints] at he
        rw [hks hne]
        have hi : i < (sortS v).length := by have := (List.getElem?_eq_some_iff.1 he).1; rwa [ints_len] at this
        have he2 : (ints (sortS v))[i]? = some [iv (sortS v)[i]] := nthMap (fun x => [iv x]) (List.getElem?_eq_getElem hi)
        rw [he2] at he
        cases he
        have hj : j = 0 := by have := (List.getElem?_eq_some_iff.1 hc').1; simp at this; omega
        subst hj
        cases hc'
        refine ⟨.int .i64 (sortS v)[i], ?_, .val _⟩
        have hiv : i < v.length := by rwa [sortS_length] at hi
        have hcu := hcur i v[i] (List.getElem?_eq_getElem hiv)
        simp only [Nat.mul_one, Nat.add_zero, putCells, Array.getElem?_mapIdx, hcu, Option.map_some]
        rw [if_pos ⟨Nat.zero_le _, by simpa using hi⟩]
        simp [hi]

end Go.Proofs.Ytphfdbmbdaninaa.Ab
