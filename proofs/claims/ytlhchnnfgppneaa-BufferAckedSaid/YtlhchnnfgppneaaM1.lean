/- slices.Sorted(maps.Keys(m)), integer keys: the contract. -/
import Derived.Test.YtlhchnnfgppneaaX0
import Derived.Test.YtlhchnnfgppneaaM0
namespace Go.Proofs.Ytlhchnnfgppneaa.Ab
open Go Go.RowKit Go.Proofs Go.Maps Go.Sort Go.Shelf
open Go.MapKept (Stamped)
set_option linter.unusedSimpArgs false
set_option linter.unusedVariables false

variable {base : Nat} {w0 w w' : World} {g : Gh} {H : Hp}

def insS (x : Int) : List Int → List Int
  | [] => [x]
  | y :: l => if x ≤ y then x :: y :: l else y :: insS x l
/-- sorted, by what the kernel computes with -/
def sortS : List Int → List Int
  | [] => []
  | x :: l => insS x (sortS l)

theorem insS_perm (x : Int) : ∀ l, (insS x l).Perm (x :: l)
  | [] => List.Perm.refl _
  | y :: l => by
    unfold insS
    split
    · exact List.Perm.refl _
    · exact ((insS_perm x l).cons y).trans (List.Perm.swap x y l)
theorem sortS_perm : ∀ l, (sortS l).Perm l
  | [] => List.Perm.refl _
  | x :: l => (insS_perm x (sortS l)).trans ((sortS_perm l).cons x)
theorem insS_pair (x : Int) : ∀ l, l.Pairwise (· ≤ ·) → (insS x l).Pairwise (· ≤ ·)
  | [], _ => by simp [insS]
  | y :: l, h => by
    obtain ⟨h1, h2⟩ := List.pairwise_cons.1 h
    unfold insS
    split
    · rename_i hxy
      refine List.pairwise_cons.2 ⟨fun z hz => ?_, h⟩
      rcases List.mem_cons.1 hz with rfl | hz
      · exact hxy
      · have := h1 z hz; omega
    · rename_i hxy
      refine List.pairwise_cons.2 ⟨fun z hz => ?_, insS_pair x l h2⟩
      rcases List.mem_cons.1 ((insS_perm x l).mem_iff.1 hz) with rfl | hz
      · omega
      · exact h1 z hz
theorem sortS_pair : ∀ l, (sortS l).Pairwise (· ≤ ·)
  | [] => by simp [sortS]
  | x :: l => insS_pair x _ (sortS_pair l)
theorem sortS_length (l : List Int) : (sortS l).length = l.length := (sortS_perm l).length_eq
theorem sortS_eq (l : List Int) : l.mergeSort (fun x y => decide (x ≤ y)) = sortS l := by
  refine List.Perm.eq_of_pairwise (le := fun a b => a ≤ b) (fun a b _ _ h1 h2 => Int.le_antisymm h1 h2) ?_ (sortS_pair l) ((List.mergeSort_perm l _).trans (sortS_perm l).symm)
  have := List.pairwise_mergeSort (le := fun x y : Int => decide (x ≤ y)) (fun a b c h1 h2 => by simp only [decide_eq_true_eq] at *; omega) (fun a b => by simp only [Bool.or_eq_true, decide_eq_true_eq]; omega) l
  exact this.imp (by intro a b h; simpa using h)

theorem sorts_in (m : Nat) : AnyZI.SortsIn Try.prog sorted_ren Fence.wide m :=
  ⟨fun blk off cap ss W hH hblk hsz => callsIn_wide.2 (AnyM.slices_Sort_int sort_lay blk off cap ss W hH hblk hsz),
   fun p cap W => callsIn_wide.2 (AnyM.slices_Sort_int_none sort_lay p cap W)⟩

abbrev noVal : Value → Option (DataW Unit × List MemPlace) := fun _ => some (.nil, [])

theorem sortedW (w : World) (Bm b : Nat) (es : Array MapEntry) (clock : Nat) (hBm : w.cell? ⟨Bm, 0, none⟩ = some (.map (some b))) (hb : w.heap[b]? = some (.map es clock)) (hst : Stamped es clock) (ks : List Int)
    (hks : es.toList.map (·.key) = ks.map (Value.int .i64)) (hwf : ∀ k ∈ ks, -9223372036854775808 ≤ k ∧ k ≤ 9223372036854775807) (hsz : ks.length * 8 ≤ 140737488355328) :
    CallsIn Fence.wide 0 Try.prog kS #[.func (.func kK) #[] #[.pointer (some ⟨Bm, 0, none⟩)]] w fun e w' => ∃ v, e = .returned v ∧ w'.ownsRow w.heap.size kT 1 v ks.length ((sortS ks).map (Value.int .i64)) ∧ (v = .slice none 0 0 ↔ ks = []) ∧ Below w.heap.size w w' := by
  have hlen : es.size = ks.length := by
    have := congrArg List.length hks
    simpa using this
  have hBl : Bm < w.heap.size := by
    rcases Nat.lt_or_ge Bm w.heap.size with h | h
    · exact h
    · simp [World.cell?, Array.getElem?_eq_none h] at hBm
  have hkey : ∀ x ∈ es.toList, ∃ k, k ∈ ks ∧ x.key = .int .i64 k := fun x hx => by
    have : x.key ∈ es.toList.map (·.key) := List.mem_map_of_mem hx
    rw [hks] at this
    obtain ⟨k, hk, e⟩ := List.mem_map.1 this
    exact ⟨k, hk, e.symm⟩
  have hrd : ∀ x ∈ es.toList, ∀ k, x.key = .int .i64 k → k ∈ ks → Go.WideElems.rd Try.prog kT noVal x = some (.int .i64 k, .nil) := fun x hx k e hk => by
    have hw := hwf k hk
    have hwf' : (Lit.int .i64 k).wf = true := by
      simp only [Lit.wf, Bool.and_eq_true, decide_eq_true_eq]
      rw [show IntKind.i64.min = -9223372036854775808 by decide, show IntKind.i64.max = 9223372036854775807 by decide]
      exact hw
    simp [Go.WideElems.rd, e, keyOf, mapKey, keys_lay.t26, hwf']
    first | done | (rw [show Try.prog.underlying kT = some (.int .i64) from keys_lay.t26]; simp [hwf'])
  have hown : w.ownsMap Try.prog kT noVal b es.size (.map ((es.toList.map (Go.WideElems.rg Try.prog kT noVal)).foldr DataW.insert [])) :=
    ⟨es, clock, hb, ⟨by rw [hlen]; simp only [maxLen]; omega, hst, fun x hx => by
      obtain ⟨k, hk, e⟩ := hkey x hx
      exact ⟨_, hrd x hx k e hk⟩⟩, Nat.le_refl _, rfl⟩
  have hperm : (intKeys (.map ((es.toList.map (Go.WideElems.rg Try.prog kT noVal)).foldr DataW.insert []))).Perm ks := by
    have h1 := (Go.WideShapes.sorted_perm (es.toList.map (Go.WideElems.rg Try.prog kT noVal))).map fun p => Go.intOf p.1
    refine h1.trans ?_
    rw [List.map_map]
    have : es.toList.map ((fun p : Lit × DataW Unit => Go.intOf p.1) ∘ Go.WideElems.rg Try.prog kT noVal) = es.toList.map fun x => (match x.key with | .int _ a => a | _ => 0) := by
      refine List.map_congr_left fun x hx => ?_
      obtain ⟨k, hk, e⟩ := hkey x hx
      simp only [Function.comp, Go.WideElems.rg, hrd x hx k e hk, Option.getD_some, Go.intOf, e]
    rw [this]
    have h2 : es.toList.map (fun x => (match x.key with | .int _ a => a | _ => 0)) = (es.toList.map (·.key)).map fun v => (match v with | .int _ a => a | _ => 0) := by rw [List.map_map]; rfl
    rw [h2, hks, List.map_map]
    have h3 : ks.map ((fun v : Value => (match v with | .int _ a => a | _ => 0)) ∘ Value.int .i64) = ks := by
      conv => rhs; rw [← List.map_id ks]
      rfl
    rw [h3]
  have hsize : Maps.size (.map ((es.toList.map (Go.WideElems.rg Try.prog kT noVal)).foldr DataW.insert [])) = ks.length := by
    rw [Maps.size_eq, (Go.WideShapes.sorted_perm _).length_eq, List.length_map, ← hlen]; simp
  have hseq := AnyZI.keys_gives keys_lay Fence.wide 2 trivial rfl (by omega) Bm b es.size _ w hBl hBm hown
  have cS := AnyZI.sorted_in sorted_lay Fence.wide 5 trivial trivial trivial trivial rfl (by omega) (sorts_in _) (sort_lay.f5.enters rfl) kK #[.pointer (some ⟨Bm, 0, none⟩)] trivial (keys_lay.f10.enters rfl) _ _
    (by rw [hsize]; simp only [maxLen]; omega) (by rw [hsize]; exact hsz) w hseq
  refine callsIn_wide.2 ((callsIn_wide.1 cS).mono fun e w' ⟨v, ss, he, hS, hrow, hnil, hbel⟩ => ?_)
  have hp : ss.Perm ks := hS.trans hperm
  rw [mergeSort_of_perm_i hp, hp.length_eq] at hrow
  refine ⟨v, he, ?_, ?_, hbel⟩
  · rw [← sortS_eq]; exact hrow
  · rw [hnil]
    constructor
    · rintro rfl; exact List.eq_nil_of_length_eq_zero (by rw [← hp.length_eq]; rfl)
    · rintro rfl; exact List.eq_nil_of_length_eq_zero (by rw [hp.length_eq]; rfl)

theorem one_arg {a : AV} {vs : Array Value} (hr : RCells g [a] vs) : ∃ v0, vs = #[v0] ∧ R g a v0 := by
  have hs := hr.size
  match vs, hs, hr with
  | ⟨[v0]⟩, _, hr => exact ⟨v0, rfl, hr.cell 0 _ _ rfl rfl⟩

/-- what is handed back, and the heap behind it -/
def srtV (H : Hp) (ks : List Int) : AV := if ks = [] then .val (.slice none 0 0) else .msl H.length 0 ks.length
def srtH (H : Hp) (ks : List Int) : Hp := if ks = [] then H else H ++ [.cells ((sortS ks).map fun x => [.val (.int .i64 x)]) kT]

theorem sortedA (H : Hp) (bx m : Nat) (t : TypeId) (es : List (AV × AV)) (ks : List Int) (hbx : H[bx]? = some (.cells [[.mp m]] t)) (hm : H[m]? = some (.amap es)) (hk : es.map (·.1) = ks.map fun k => .val (.int .i64 k))
    (hwf : ∀ k ∈ ks, -9223372036854775808 ≤ k ∧ k ≤ 9223372036854775807) (hsz : ks.length * 8 ≤ 140737488355328) : CallsTo Try.prog kS [.fn (.func kK) [.mptr bx 0 0]] H (srtV H ks) (srtH H ks) := by
  refine ⟨by kernel_rfl, fun base w0 g w vs S hr => ?_⟩
  obtain ⟨v0, rfl, h0⟩ := one_arg hr
  cases h0 with
  | fn hy hl hc =>
    rename_i us
    have hs : us.size = 1 := by simpa using hl.symm
    match us, hs, hc with
    | ⟨[p]⟩, hs1, hc =>
      have hp := hc 0 _ _ rfl rfl
      cases hp with
      | mptr hx =>
        rename_i x
        obtain ⟨y, o, q1, q2, q3⟩ := S.obj bx _ hbx (by simp)
        rw [hx] at q1; cases q1
        cases q3 with
        | cells hs1 hl1 hk1 hr1 =>
          rename_i cur
          obtain ⟨u, hu, hR⟩ := hr1 0 _ 0 _ rfl rfl
          cases hR with
          | mp hz =>
            rename_i z
            obtain ⟨z', o2, r1, r2, r3⟩ := S.obj m _ hm (by simp)
            rw [hz] at r1; cases r1
            cases r3 with
            | amap hlm hrm hst =>
              rename_i ms clock
              have hBm : w.cell? ⟨x, 0 * g.ks bx + 0, none⟩ = some (.map (some z)) := by
                rw [cell_of_cells q2]
                simpa using hu
              simp only [Nat.zero_mul, Nat.add_zero] at hBm ⊢
              have hks : ms.toList.map (·.key) = ks.map (Value.int .i64) := by
                refine List.ext_getElem? fun i => ?_
                have hi := congrArg (fun l => l[i]?) hk
                simp only [List.getElem?_map] at hi ⊢
                by_cases hlt : i < es.length
                · obtain ⟨e, he⟩ : ∃ e, es[i]? = some e := ⟨_, List.getElem?_eq_getElem hlt⟩
                  obtain ⟨mm, hmm⟩ : ∃ mm, ms.toList[i]? = some mm := ⟨_, List.getElem?_eq_getElem (by simpa [← hlm] using hlt)⟩
                  have hR := (hrm i e mm he (by simpa using hmm)).1
                  rw [he] at hi
                  rw [hmm]
                  cases hk2 : ks[i]? with
                  | none => rw [hk2] at hi; cases hi
                  | some k =>
                    rw [hk2] at hi
                    simp only [Option.map_some, Option.some.injEq] at hi ⊢
                    rw [hi] at hR
                    generalize hmk : mm.key = mk at hR
                    cases hR
                    rfl
                · rw [List.getElem?_eq_none (show es.length ≤ i by omega)] at hi
                  have h2 : ms.toList.length ≤ i := by simp [← hlm]; omega
                  rw [List.getElem?_eq_none h2]
                  cases hk2 : ks[i]? with
                  | none => rfl
                  | some k => rw [hk2] at hi; cases hi
              have hC := sortedW w x z ms clock hBm r2 hst ks hks hwf hsz
              refine hC.mono fun e w' ⟨v, he, hrow, hnil, hbel⟩ => ?_
              have S' := S.beyond hbel
              unfold srtV srtH
              by_cases hz0 : ks = []
              · rw [if_pos hz0, if_pos hz0]
                rw [hnil.2 hz0] at he
                exact ⟨_, _, _, g, he, ⟨rfl, rfl⟩, Gh.le.refl g, S', .val _⟩
              · rw [if_neg hz0, if_neg hz0]
                rcases hrow.2 with ⟨rfl, _⟩ | ⟨gb, cap, cur2, rfl, hge, hgb, hn, hcm, hcs, htk⟩
                · exact absurd (hnil.1 rfl) hz0
                have hglt : gb < w'.heap.size := (Array.getElem?_eq_some_iff.1 hgb).1
                have hS := S'.push (x := gb) (k := 1) (c := cap) (ob := .cells ((sortS ks).map fun x => [.val (.int .i64 x)]) kT) (Nat.le_trans S.low hge) hglt hgb
                  (fun o => by
                    cases h : g.fz gb o with
                    | none => rfl
                    | some v => exact absurd (S.fzlt h) (by omega))
                  (fun h => absurd (S.marks _ h).2.1 (by omega)) (fun b ob _ _ h => absurd (S.pos b _ h).2 (by omega))
                  (.cells (by simpa using hcs) (by rw [List.length_map, sortS_length]; exact hn)
                    (fun i e he => by
                      rw [List.getElem?_map] at he
                      cases h : (sortS ks)[i]? with
                      | none => rw [h] at he; cases he
                      | some a => rw [h] at he; cases he; rfl)
                    (fun i e j c he hc => by
                      rw [List.getElem?_map] at he
                      cases h : (sortS ks)[i]? with
                      | none => rw [h] at he; cases he
                      | some a =>
                        rw [h] at he; cases he
                        have hj : j = 0 := by have := (List.getElem?_eq_some_iff.1 hc).1; simp at this; omega
                        subst hj
                        cases hc
                        refine ⟨.int .i64 a, ?_, .val _⟩
                        have hi : i < ks.length := by rw [← sortS_length]; exact (List.getElem?_eq_some_iff.1 h).1
                        have h3 := congrArg (fun l => l[i]?) htk
                        simp only [Nat.mul_one, List.getElem?_take, if_pos hi, List.getElem?_map, h, Option.map_some] at h3
                        simpa using h3))
                refine ⟨_, _, _, _, he, ⟨rfl, rfl⟩, Gh.phAdd_le S'.fresh, hS, ?_⟩
                have hRv := R.msl (g := g.phAdd H.length gb 1 cap) (b := H.length) (off := 0) (len := ks.length) (x := gb) (cap := cap) (by simp [Gh.phAdd]) hn (by simp [Gh.phAdd]) hcm
                simpa using hRv

/-- the keys of a map, if all are integers -/
def keysA : List (AV × AV) → Option (List Int)
  | [] => some []
  | (.val (.int .i64 k), _) :: es => (keysA es).map (k :: ·)
  | _ => none

theorem keysA_map : ∀ {es : List (AV × AV)} {ks : List Int}, keysA es = some ks → es.map (·.1) = ks.map fun k => .val (.int .i64 k)
  | [], ks, h => by unfold keysA at h; cases h; rfl
  | e :: es, ks, h => by
    unfold keysA at h
    split at h
    · rename_i h0; cases h0
    · rename_i k v es' he
      cases he
      cases h2 : keysA es with
      | none => rw [h2] at h; cases h
      | some l => rw [h2] at h; cases h; simp [keysA_map h2]
    · cases h

/-- what is known of slices.Sorted(maps.Keys(m)) -/
def srtX : Ora := fun k args H =>
  if k = kS then
    match args with
    | [.fn (.func c) [.mptr bx 0 0]] => if c = kK then
        match H[bx]? with
        | some (.cells [[.mp m]] _) => match H[m]? with
          | some (.amap es) => match keysA es with
            | some ks => if (∀ k ∈ ks, -9223372036854775808 ≤ k ∧ k ≤ 9223372036854775807) ∧ ks.length * 8 ≤ 140737488355328 then some (srtV H ks, srtH H ks, []) else none
            | none => none
          | _ => none
        | _ => none
      else none
    | _ => none
  else none

theorem srtX_ok : OraOk Try.prog srtX := by
  intro k args H v H' t h
  unfold srtX at h
  split at h
  · rename_i hk
    subst hk
    split at h
    · rename_i c bx
      split at h
      · rename_i hc
        subst hc
        split at h
        · rename_i m tt hbx
          split at h
          · rename_i es hm
            split at h
            · rename_i ks hks
              split at h
              · rename_i hif
                cases h
                refine ⟨sortedA H bx m tt es ks hbx hm (keysA_map hks) hif.1 hif.2, ?_⟩
                unfold srtH
                split
                · exact Keeps.refl _ _
                · exact Keeps.app _ _ _
              · cases h
            · cases h
          · cases h
        · cases h
      · cases h
    · cases h
  · cases h

end Go.Proofs.Ytlhchnnfgppneaa.Ab
