/- Sorting nodes by ranks: the contract of slices.SortFunc. -/
import Derived.Test.YtphfdbmbdaninaaM6
namespace Go.Proofs.Ytphfdbmbdaninaa.Ab
open Go Go.RowKit Go.Proofs Go.Lib Go.Maps Go.Sort Go.Shelf
set_option linter.unusedSimpArgs false
set_option linter.unusedVariables false

theorem two_args {g : Gh} {x y : AV} {vs : Array Value} (hr : RCells g [x, y] vs) : ∃ v0 v1, vs = #[v0, v1] ∧ R g x v0 ∧ R g y v1 := by
  have hs := hr.size
  match vs, hs, hr with
  | ⟨[v0, v1]⟩, _, hr => exact ⟨v0, v1, rfl, hr.cell 0 _ _ rfl rfl, hr.cell 1 _ _ rfl rfl⟩

theorem ordL_len1 (r : List Int) (n : Nat) : (ordL r n).length = n := by rw [(ordL_perm r n).length_eq]; simp

theorem sortF_ok (H : Hp) (r : List Int) (ex : Bool) {b : Nat} {t : TypeId} (hn : 0 < r.length) (hlen : r.length ≤ 100) (hb : H[b]? = some (.cells (nats (List.range r.length)) t)) :
    CallsTo Try.prog 125 [.msl b 0 r.length, .fn (.func 126) [.rptr [.fn (.func 108) [.rptr [.rsl (ints r) ex] 0]] 0]] H (.val (.tuple #[])) (H.set b (.cells (nats (ordL r r.length)) t)) := by
  refine ⟨by kernel_rfl, fun base w0 g w vs S hr => ?_⟩
  obtain ⟨v0, v1, rfl, h0, hk⟩ := two_args hr
  obtain ⟨KB, ko, RB, qo, rb, ro, kcap, rfl, f1, f2, f3⟩ := key_args hn hk
  cases h0 with
  | msl hx hl hc hm =>
    rename_i x cap
    obtain ⟨y, o, q1, q2, q3⟩ := S.obj b _ hb (by simp)
    rw [hx] at q1; cases q1
    have hsep := (S.sep b x _ hb (by simp) hx).1
    cases q3 with
    | cells hs1 hl1 hk1 hr1 =>
      rename_i cur
      have hlt : x < w.heap.size := (S.pos b x hx).2
      have hks : g.ks b = 1 := (hk1 0 [iv (0 : Nat)] (nats_at (by rw [List.getElem?_range hn]))).symm
      have hcur : ∀ i, i < r.length → cur[i]? = some (Value.int .i64 (i : Nat)) := fun i h => by
        have h1 : (nats (List.range r.length))[i]? = some [iv (i : Int)] := nats_at (by rw [List.getElem?_range h])
        obtain ⟨u, hu, hR⟩ := hr1 i _ 0 _ h1 rfl
        cases hR
        rw [hks] at hu
        simpa using hu
      have ne : ∀ {c o : Nat} {v : Value}, g.fz c o = some v → c ≠ x ∧ c < w.heap.size := fun {c o v} h => ⟨(fun e => by subst e; rw [hsep o] at h; cases h), S.fzlt h⟩
      haveI : Inhabited (Fin r.length) := ⟨⟨0, hn⟩⟩
      have hd : (List.finRange r.length).toArray.size = r.length := by simp
      have hH : Holds (fun a : Fin r.length => Value.int .i64 (a.1 : Int)) w x 0 (List.finRange r.length).toArray := fun j hj => by
        have hj' : j < r.length := by simpa using hj
        have e : (List.finRange r.length).toArray[j]! = ⟨j, hj'⟩ := by rw [getElem!_pos (List.finRange r.length).toArray j hj]; simp
        rw [e]
        refine ⟨?_, ?_⟩
        · rw [cell_of_cells q2, Nat.zero_add]; exact hcur j hj'
        · simp [World.frozen?, q2]
      have hC := Any.slices_SortFunc_total sortF_lay (fun a : Fin r.length => Value.int .i64 (a.1 : Int)) (fun _ => rfl) (fun a b => Cp.cfR r a.1 b.1) (bef_swo r r.length) 126 #[.pointer (some ⟨KB, ko, none⟩)] x 0 cap (List.finRange r.length).toArray w
        (fun args w => by kernel_rfl)
        (by rw [hd]; exact cmp_lays r.length r rfl KB ko RB qo rb ro kcap x 0 r.length w (ne f1) (ne f2) (ne (f3 0 hn)) (S.fz _ _ _ f1) (S.fz _ _ _ f2) (fun i hi => S.fz _ _ _ (f3 i hi)))
        hH hlt (by rw [hd]; omega) (bef_total r r.length)
      rw [hd] at hC
      have hdk := mergeFin r r.length
      generalize hmk : (List.finRange r.length).mergeSort (fun x y => !(ltOf (fun a b : Fin r.length => Cp.cfR r a.1 b.1)) y x) = dk at hdk
      simp only [hmk] at hC
      have hdl : dk.length = r.length := by have := congrArg List.length hdk; simpa [ordL_len1] using this
      rw [Nat.zero_mul]
      refine callsIn_wide.2 (hC.mono fun e w' ⟨he, n, os, hw⟩ => ?_)
      subst hw
      unfold sortWorld
      have hg : w.grownBy (grow (putRow (fun a : Fin r.length => Value.int .i64 (a.1 : Int)) (Sort.ahead w n) x 0 dk.toArray) os) (some x) := by
        refine ⟨rfl, rfl, rfl, by simp, fun k hk hne => ?_⟩
        rw [heap_grow_old _ _ (by simpa using hk)]
        simp only [putRow, mapBlock, heap_ahead, Array.getElem?_modify]
        rw [if_neg (fun e => hne (by rw [e]))]
      have ho : (grow (putRow (fun a : Fin r.length => Value.int .i64 (a.1 : Int)) (Sort.ahead w n) x 0 dk.toArray) os).heap[x]? = some (.cells (putCells (fun a : Fin r.length => Value.int .i64 (a.1 : Int)) 0 dk.toArray cur) t (0, 0)) := by
        rw [heap_grow_old _ _ (by simpa using hlt)]
        simp only [putRow, mapBlock, heap_ahead, Array.getElem?_modify, if_true, q2, Option.map_some, onCells]
      have hol : (ordL r r.length).length = r.length := ordL_len1 r _
      have hnl : (nats (List.range r.length)).length = r.length := by rw [nats_len]; simp
      have S' := S.turn (ob' := .cells (nats (ordL r r.length)) t) hb (by simp) hx hg ho (.cells (by simp [putCells, hs1]) (by rw [nats_len, hol, ← hnl]; exact hl1) (fun i e he => ?_) (fun i e j c he hc' => ?_))
      · exact ⟨_, _, _, g, he, ⟨rfl, rfl⟩, Gh.le.refl g, S', .val _⟩
      · rw [hks]; exact nats_one _ _ (List.mem_of_getElem? he)
      · rw [hks]
        have hi : i < r.length := by have := (List.getElem?_eq_some_iff.1 he).1; rwa [nats_len, hol] at this
        have hidk : i < dk.length := by omega
        have hoi : (ordL r r.length)[i]? = some dk[i].1 := by rw [← hdk, List.getElem?_map, List.getElem?_eq_getElem hidk]; rfl
        rw [nats_at hoi] at he
        cases he
        have hj : j = 0 := by have := (List.getElem?_eq_some_iff.1 hc').1; simp at this; omega
        subst hj
        cases hc'
        refine ⟨.int .i64 (dk[i].1 : Int), ?_, .val _⟩
        have hcu := hcur i hi
        simp only [Nat.mul_one, Nat.add_zero, putCells, Array.getElem?_mapIdx, hcu, Option.map_some]
        rw [if_pos ⟨Nat.zero_le _, by simpa using hidk⟩]
        simp [hidk]

end Go.Proofs.Ytphfdbmbdaninaa.Ab
