/- Archive: the comparison of two keys, at world level: a drawn region by an invariant over worlds. -/
import Derived.Test.YtdmgljlabigljaaTJ
import Derived.Test.YtdmgljlabigljaaS5
namespace Go.Proofs.Ytdmgljlabigljaa.Ab
open Go Go.RowKit Go.Proofs Go.Lib Go.Maps Go.Sort Go.Shelf
set_option linter.unusedSimpArgs false
set_option linter.unusedVariables false

section
variable {P : Program} {n : Nat} {ops : Array Oper} {Q : Exit → Act → World → Prop}
def InvStepW (P : Program) (Q : Exit → Act → World → Prop) (I : (Nat → Bool) → Act → World → Prop) (i : Nat) (o : Oper) : Prop :=
  ∀ L a w (K : Act → World → Prop), L i = false → (o.after.toList.all fun e => !Region.binds .any e || L e.on) = true → I L a w → (∀ a' w', I (setL L i) a' w' → K a' w') → o.wp P a w K Q

theorem invW_sound (hok : invOk n ops = true) {I : (Nat → Bool) → Act → World → Prop} (hs : AllIx (InvStepW P Q I) 0 ops.toList) (hq : ∀ L a w, (∀ i, i < ops.size → L i = true) → I L a w → Q .normal a w) :
    ∀ (fuel : Nat) (listed : Array Bool) (a : Act) (w : World), listed.size = ops.size → RoomInvL ops listed fuel → I (fun i => listed.getD i false) a w → wpAny P .any ops Q fuel listed a w := by
  have hend : ∀ (fuel : Nat) (listed : Array Bool) (a : Act) (w : World), listed.size = ops.size → Region.ready .any ops listed = [] → I (fun i => listed.getD i false) a w → wpAny P .any ops Q fuel listed a w := by
    intro fuel listed a w hsz hr hI
    refine wpAny_done hr (hq _ _ _ (fun i => ?_) hI) _
    induction i using Nat.strongRecOn with
    | _ i ih =>
      intro hi
      cases hl : listed.getD i false with
      | true => rfl
      | false =>
        exfalso
        have ho : ops[i]? = some ops[i] := Array.getElem?_eq_getElem hi
        have : i ∈ Region.ready .any ops listed := by
          rw [mem_ready]
          refine ⟨?_, ops[i], ho, fun e he hb => ih e.on ((invOk_spec hok ho).2.2 e he hb) (by have := (invOk_spec hok ho).2.2 e he hb; omega)⟩
          rw [Array.getD_eq_getD_getElem?, Array.getElem?_eq_getElem (by omega), Option.getD_some] at hl ⊢
          exact hl
        rw [hr] at this; cases this
  intro fuel
  induction fuel with
  | zero =>
    intro listed a w hsz hroom hI
    refine hend 0 listed a w hsz ?_ hI
    cases hr : Region.ready .any ops listed with
    | nil => rfl
    | cons i rs =>
      have hi : i ∈ Region.ready .any ops listed := by rw [hr]; simp
      obtain ⟨h1, h2, _⟩ := readyInvL hsz hi
      have := hroom [i] (by simp) (by intro j hj; simp at hj; subst hj; exact ⟨h1, h2⟩)
      simp at this
  | succ fuel ih =>
    intro listed a w hsz hroom hI
    by_cases hr : Region.ready .any ops listed = []
    · exact hend _ listed a w hsz hr hI
    · refine wpAny_all rfl hr fun i hi => ?_
      obtain ⟨hlt, hli, o, ho, hedges⟩ := readyInvL hsz hi
      obtain ⟨hgd, hdst, _⟩ := invOk_spec hok ho
      have hst := AllIx.get hs (i := i) (o := o) (by simpa using ho)
      rw [Nat.zero_add] at hst
      unfold wpOp
      rw [ho]
      simp only
      rw [if_pos (by unfold Region.wanted; rw [hgd])]
      refine .inl (hst (fun i => listed.getD i false) a w _ hli (by
        rw [List.all_eq_true]
        intro e he
        cases hb : Region.binds .any e with
        | false => rfl
        | true => simpa using hedges e (by simpa using he) hb) hI fun a' w' hI' => ?_)
      refine ih _ a' w' (by simpa using hsz) ?_ ?_
      · intro Z hZ hk
        have := hroom (i :: Z) (List.nodup_cons.2 ⟨fun hm => by have := (hk i hm).2; rw [setInvL hsz hlt] at this; simp [setL] at this, hZ⟩) (fun k hkm => by
          rcases List.mem_cons.1 hkm with rfl | hkm
          · exact ⟨hlt, hli⟩
          · have h1 := hk k hkm
            refine ⟨h1.1, ?_⟩
            have h2 := h1.2
            rw [setInvL hsz hlt] at h2
            unfold setL at h2
            by_cases hki : k = i
            · rw [if_pos hki] at h2; cases h2
            · rw [if_neg hki] at h2; exact h2)
        simp at this
        omega
      · have e : (fun j => (listed.setIfInBounds i true).getD j false) = setL (fun j => listed.getD j false) i := funext fun j => setInvL hsz hlt j
        rw [e]; exact hI'

theorem wp_region_invW {id : Nat} {a : Act} {w : World} (hm : P.follows .mixedOrders = true) (I : (Nat → Bool) → Act → World → Prop) (hok : invOk n ops = true) (h0 : I (fun _ => false) a w.drew) (hs : AllIx (InvStepW P Q I) 0 ops.toList)
    (hq : ∀ L a w, (∀ i, i < ops.size → L i = true) → I L a w → Q .normal a w) : (Code.region id ops true).wp P Q a w := by
  refine wp_region_any hm ?_
  refine invW_sound hok hs hq ops.size (Array.replicate ops.size false) a _ (by simp) ?_ ?_
  · intro Z hZ hk
    exact nodup_le _ Z hZ fun k hk' => (hk k hk').1
  · have e : (fun i => (Array.replicate ops.size false).getD i false) = fun _ => false := by
      funext i
      rw [Array.getD_eq_getD_getElem?, Array.getElem?_replicate]
      split <;> rfl
    rw [e]; exact h0
end

def tlC36 : Code → Code
  | .seq _ y => y
  | c => c
def hdC36 : Code → Code
  | .seq x _ => x
  | c => c
/-- the slots of the comparison, in the midst of it -/
def Sl36 : List Nat := [5, 6, 7, 8, 9, 10, 11, 12, 13, 14, 15, 16, 17, 18, 19, 20, 21, 4]
def V36 (b1 b2 b3 : Nat) (x y : K3) : Nat → Value
  | 0 => .pointer (some ⟨b1, 0, none⟩)
  | 1 => .int .i64 x.1
  | 2 => .pointer (some ⟨b2, 0, none⟩)
  | 3 => .int .i64 y.1
  | 4 => .int .i64 (sgn x.1 y.1)
  | 5 => .pointer (some ⟨b1, 1, none⟩)
  | 6 => .int .i64 x.2.1
  | 7 => .pointer (some ⟨b2, 1, none⟩)
  | 8 => .int .i64 y.2.1
  | 9 => .int .i64 (sgn x.2.1 y.2.1)
  | 10 => .pointer (some ⟨b1, 2, none⟩)
  | 11 => .int .i64 x.2.2
  | 12 => .pointer (some ⟨b2, 2, none⟩)
  | 13 => .int .i64 y.2.2
  | 14 => .int .i64 (sgn x.2.2 y.2.2)
  | 15 => .slice (some ⟨b3, 0, none⟩) 3 3
  | 16 => .int .i64 (cfK x y)
  | 17 => .int .i64 (cfK x y)
  | _ => undef
structure Inv36 (W1 : World) (b1 b2 : Nat) (x y : K3) (L : Nat → Bool) (a : Act) (w : World) : Prop where
  size : a.tmps.size = 22
  d : a.defers = []
  t2 : a.tmps.getD 2 undef = .pointer (some ⟨b1, 0, none⟩)
  t3 : a.tmps.getD 3 undef = .pointer (some ⟨b2, 0, none⟩)
  tab : ∀ k, k < 18 → L k = true → a.tmps.getD (Sl36.getD k 0) undef = V36 b1 b2 W1.heap.size x y k
  wld : w = if L 15 then W1.alloc (.cells #[.int .i64 (sgn x.1 y.1), .int .i64 (sgn x.2.1 y.2.1), .int .i64 (sgn x.2.2 y.2.2)] 3) else W1
theorem getD_put (a : Array Value) (s t : Nat) (v : Value) (hs : s < a.size) : (a.setIfInBounds s v).getD t undef = if t = s then v else a.getD t undef := by
  rw [Array.getD_eq_getD_getElem?, Array.getD_eq_getD_getElem?, Array.getElem?_setIfInBounds]
  by_cases h : s = t
  · subst h; simp [hs]
  · rw [if_neg h, if_neg (Ne.symm h)]
theorem Inv36.put {W1 : World} {b1 b2 : Nat} {x y : K3} {L : Nat → Bool} {a : Act} {w w' : World} (h : Inv36 W1 b1 b2 x y L a w) {k s : Nat} (hk : k < 18) (hs : Sl36.getD k 0 = s) (hw : w' = if setL L k 15 then W1.alloc (.cells #[.int .i64 (sgn x.1 y.1), .int .i64 (sgn x.2.1 y.2.1), .int .i64 (sgn x.2.2 y.2.2)] 3) else W1) :
    Inv36 W1 b1 b2 x y (setL L k) (a.put (some s) (V36 b1 b2 W1.heap.size x y k)) w' := by
  have hinj : ∀ j, j < 18 → ∀ k, k < 18 → j ≠ k → Sl36.getD j 0 ≠ Sl36.getD k 0 := by decide
  have hlt : ∀ k, k < 18 → Sl36.getD k 0 < 22 ∧ Sl36.getD k 0 ≠ 2 ∧ Sl36.getD k 0 ≠ 3 := by decide
  obtain ⟨l1, l2, l3⟩ := hlt k hk
  rw [hs] at l1 l2 l3
  refine ⟨by show (a.tmps.setIfInBounds s _).size = 22; rw [Array.size_setIfInBounds]; exact h.size, h.d, ?_, ?_, fun j hj hL => ?_, hw⟩
  · show (a.tmps.setIfInBounds s _).getD 2 undef = _
    rw [getD_put _ _ _ _ (by rw [h.size]; exact l1), if_neg (Ne.symm l2)]; exact h.t2
  · show (a.tmps.setIfInBounds s _).getD 3 undef = _
    rw [getD_put _ _ _ _ (by rw [h.size]; exact l1), if_neg (Ne.symm l3)]; exact h.t3
  · show (a.tmps.setIfInBounds s _).getD _ undef = _
    rw [getD_put _ _ _ _ (by rw [h.size]; exact l1)]
    by_cases e : j = k
    · subst e; rw [if_pos hs]
    · rw [if_neg (by rw [← hs]; exact hinj j hj k hk e)]
      exact h.tab j hj (by simpa [setL, e] using hL)

section
variable {P : Program} {a : Act} {w : World} {K : Act → World → Prop} {Q : Exit → Act → World → Prop} {dst : Option Tmp} {ty : TypeId} {pos : String} {aft : Array Edge}
theorem wp_fa {s : TypeId} {x : Operand} {f d : Nat} {ad : Addr} (hd : fieldOff P s f = some d) (h1 : a.eval x = .pointer (some ad)) (hK : K (a.put dst (.pointer (some (ad.add d)))) w) : Oper.wp P ⟨dst, .fieldAddr s x f, ty, pos, aft, none⟩ a w K Q := by
  unfold Oper.wp
  rw [show (execOp a.eval ⟨dst, .fieldAddr s x f, ty, pos, aft, none⟩).run P w = .ok (.value (.pointer (some (ad.add d)))) w by simp only [execOp, Sem.run_bind, h1, fieldOff_run hd, Result.andThen_ok, Sem.run_pure]]
  exact hK
theorem wp_ld {t : TypeId} {x : Operand} {ad : Addr} {z : Value} (hld : ∀ cs off, loadA P t cs off = cs[off]?) (h1 : a.eval x = .pointer (some ad)) (hc : w.cell? ad = some z) (hK : K (a.put dst z) w) : Oper.wp P ⟨dst, .load t x, ty, pos, aft, none⟩ a w K Q := by
  have e0 : ad.add 0 = ad := by cases ad; simp [Addr.add]
  obtain ⟨v, h2, h3⟩ := loadA_run (P := P) (w := w) (g := ⟨fun _ _ => none, fun _ => none, fun _ => 0, fun _ => 0, fun _ => False⟩) (t := t) (cs := [.val z]) (off := 0) (a := .val z) (by rw [hld]; rfl) (a.eval x) ⟨ad, h1⟩ (fun j c hj => by
    match j with
    | 0 => simp at hj; subst hj; exact ⟨ad, h1, z, by rw [e0]; exact hc, .val _⟩
    | n + 1 => simp at hj)
  cases h3
  unfold Oper.wp
  rw [show (execOp a.eval ⟨dst, .load t x, ty, pos, aft, none⟩).run P w = .ok (.value z) w by simp only [execOp, Sem.run_bind, h2, Result.andThen_ok, Sem.run_pure]]
  exact hK
theorem wp_as {x : Operand} {z : Value} (h1 : a.eval x = z) (hK : K (a.put dst z) w) : Oper.wp P ⟨dst, .assign x, ty, pos, aft, none⟩ a w K Q := by
  subst h1; exact hK
theorem wp_cl {k' : FuncId} {args : Array Operand} {aT : Array TypeId} {vs : Array Value} {z : Value} (hc1 : callable P k' = true) (hv : args.map a.eval = vs) (h : Calls P k' vs w fun e w' => e = .returned z ∧ w' = w) (hK : K (a.put dst z) w) : Oper.wp P ⟨dst, .call ⟨.value (.func k'), args, aT⟩, ty, pos, aft, none⟩ a w K Q := by
  subst hv
  have hrun : (execOp a.eval ⟨dst, .call ⟨.value (.func k'), args, aT⟩, ty, pos, aft, none⟩).run P w = .ok (.enter k' (args.map a.eval)) w := by
    unfold callable at hc1
    split at hc1
    · rename_i fn hfn
      simp only [Bool.and_eq_true, Bool.not_eq_true'] at hc1
      have hb : fn.body ≠ none := by intro hb; simp [hb] at hc1
      have hne : fn.name ≠ "runtime.NumGoroutine" := by simpa using hc1.2
      simp [execOp, resolve, Deferred.ofValue, invoke, callFunc, hfn, hne, hb, Act.eval]
    · cases hc1
  unfold Oper.wp
  rw [hrun, Oper.upon_enter]
  refine Calls.mono h ?_
  rintro e w' ⟨rfl, rfl⟩
  exact hK
end

theorem cell_alloc3' (W : World) (x y z : Value) (t : TypeId) : (W.alloc (.cells #[x, y, z] t)).cell? ⟨W.heap.size, 0, none⟩ = some x ∧ (W.alloc (.cells #[x, y, z] t)).cell? ⟨W.heap.size, 0 + 1, none⟩ = some y ∧ (W.alloc (.cells #[x, y, z] t)).cell? ⟨W.heap.size, 0 + 2, none⟩ = some z := cell_alloc3 W x y z t

set_option maxHeartbeats 4000000 in
set_option maxRecDepth 100000 in
theorem cf36R (x y : K3) (W1 : World) (b1 b2 : Nat) (a : Act) (Q : Exit → Act → World → Prop) (hx1 : W1.cell? ⟨b1, 0, none⟩ = some (.int .i64 x.1)) (hx2 : W1.cell? ⟨b1, 1, none⟩ = some (.int .i64 x.2.1)) (hx3 : W1.cell? ⟨b1, 2, none⟩ = some (.int .i64 x.2.2))
    (hy1 : W1.cell? ⟨b2, 0, none⟩ = some (.int .i64 y.1)) (hy2 : W1.cell? ⟨b2, 1, none⟩ = some (.int .i64 y.2.1)) (hy3 : W1.cell? ⟨b2, 2, none⟩ = some (.int .i64 y.2.2))
    (hs : a.tmps.size = 22) (hd : a.defers = []) (t2 : a.tmps.getD 2 undef = .pointer (some ⟨b1, 0, none⟩)) (t3 : a.tmps.getD 3 undef = .pointer (some ⟨b2, 0, none⟩)) (W0 : World) (hW : W0.drew = W1)
    (hQ : ∀ a' w', a'.defers = [] → a'.tmps.getD 4 undef = .int .i64 (cfK x y) → w' = W1.alloc (.cells #[.int .i64 (sgn x.1 y.1), .int .i64 (sgn x.2.1 y.2.1), .int .i64 (sgn x.2.2 y.2.2)] 3) → Q .normal a' w') :
    (hdC36 (tlC36 (Try.f36.body.getD .skip))).wp Try.prog Q a W0 := by
  have hb1 : b1 < W1.heap.size := by
    unfold World.cell? at hx1
    cases h : W1.heap[b1]? with
    | none => simp only [h] at hx1; cases hx1
    | some o => exact (Array.getElem?_eq_some_iff.1 h).1
  have hb2 : b2 < W1.heap.size := by
    unfold World.cell? at hy1
    cases h : W1.heap[b2]? with
    | none => simp only [h] at hy1; cases hy1
    | some o => exact (Array.getElem?_eq_some_iff.1 h).1
  have hcell : ∀ (b o : Nat) (v : Value) (L : Nat → Bool) (w : World), b < W1.heap.size → W1.cell? ⟨b, o, none⟩ = some v → (w = if L 15 then W1.alloc (.cells #[.int .i64 (sgn x.1 y.1), .int .i64 (sgn x.2.1 y.2.1), .int .i64 (sgn x.2.2 y.2.2)] 3) else W1) → w.cell? ⟨b, o, none⟩ = some v := by
    intro b o v L w hb hc hw
    subst hw
    split
    · rw [← hc]
      unfold World.cell?
      rw [heap_alloc_old _ _ hb]
    · exact hc
  have hx1 := fun {L} w h => hcell b1 0 _ L w hb1 hx1 h
  have hx2 := fun {L} w h => hcell b1 1 _ L w hb1 hx2 h
  have hx3 := fun {L} w h => hcell b1 2 _ L w hb1 hx3 h
  have hy1 := fun {L} w h => hcell b2 0 _ L w hb2 hy1 h
  have hy2 := fun {L} w h => hcell b2 1 _ L w hb2 hy2 h
  have hy3 := fun {L} w h => hcell b2 2 _ L w hb2 hy3 h
  unfold Try.f36
  simp only [tlC36, hdC36, Option.getD_some]
  refine wp_region_invW (n := 22) (by kernel_rfl) (Inv36 W1 b1 b2 x y) (by kernel_rfl) ⟨hs, hd, t2, t3, by simp, by rw [hW]; simp⟩ ?_ (fun L a' w' hL hI => hQ a' w' hI.d (hI.tab 17 (by decide) (hL 17 (by decide))) (by have := hI.wld; rw [hL 15 (by decide)] at this; simpa using this))
  · simp only [AllIx]
    refine ⟨?_, ?_, ?_, ?_, ?_, ?_, ?_, ?_, ?_, ?_, ?_, ?_, ?_, ?_, ?_, ?_, ?_, ?_, trivial⟩
    all_goals
      intro L a w K hL hq hI hK
      simp [Region.binds] at hq
    · exact wp_fa (d := 0) fo77_0 hI.t2 (hK _ _ (hI.put (k := 0) (s := 5) (by decide) rfl (by rw [hI.wld]; simp [setL])))
    · exact wp_ld ld3 (hI.tab 0 (by decide) (by simp [hq])) (hx1 _ hI.wld) (hK _ _ (hI.put (k := 1) (s := 6) (by decide) rfl (by rw [hI.wld]; simp [setL])))
    · exact wp_fa (d := 0) fo77_0 hI.t3 (hK _ _ (hI.put (k := 2) (s := 7) (by decide) rfl (by rw [hI.wld]; simp [setL])))
    · exact wp_ld ld3 (hI.tab 2 (by decide) (by simp [hq])) (hy1 _ hI.wld) (hK _ _ (hI.put (k := 3) (s := 8) (by decide) rfl (by rw [hI.wld]; simp [setL])))
    · have e1 := hI.tab 1 (by decide) (by simp [hq])
      have e2 := hI.tab 3 (by decide) (by simp [hq])
      refine wp_cl (by kernel_rfl) (vs := #[_, _]) (by simp only [List.map_toArray, List.map_cons, List.map_nil]; rw [show a.eval (.tmp 6) = _ from e1, show a.eval (.tmp 8) = _ from e2]; rfl) (cmp38W _ _ w) (hK _ _ (hI.put (k := 4) (s := 9) (by decide) rfl (by rw [hI.wld]; simp [setL])))
    · exact wp_fa (d := 1) fo77_1 hI.t2 (hK _ _ (hI.put (k := 5) (s := 10) (by decide) rfl (by rw [hI.wld]; simp [setL])))
    · exact wp_ld ld2 (hI.tab 5 (by decide) (by simp [hq])) (hx2 _ hI.wld) (hK _ _ (hI.put (k := 6) (s := 11) (by decide) rfl (by rw [hI.wld]; simp [setL])))
    · exact wp_fa (d := 1) fo77_1 hI.t3 (hK _ _ (hI.put (k := 7) (s := 12) (by decide) rfl (by rw [hI.wld]; simp [setL])))
    · exact wp_ld ld2 (hI.tab 7 (by decide) (by simp [hq])) (hy2 _ hI.wld) (hK _ _ (hI.put (k := 8) (s := 13) (by decide) rfl (by rw [hI.wld]; simp [setL])))
    · have e1 := hI.tab 6 (by decide) (by simp [hq])
      have e2 := hI.tab 8 (by decide) (by simp [hq])
      refine wp_cl (by kernel_rfl) (vs := #[_, _]) (by simp only [List.map_toArray, List.map_cons, List.map_nil]; rw [show a.eval (.tmp 11) = _ from e1, show a.eval (.tmp 13) = _ from e2]; rfl) (cmp39W _ _ w) (hK _ _ (hI.put (k := 9) (s := 14) (by decide) rfl (by rw [hI.wld]; simp [setL])))
    · exact wp_fa (d := 2) fo77_2 hI.t2 (hK _ _ (hI.put (k := 10) (s := 15) (by decide) rfl (by rw [hI.wld]; simp [setL])))
    · exact wp_ld ld3 (hI.tab 10 (by decide) (by simp [hq])) (hx3 _ hI.wld) (hK _ _ (hI.put (k := 11) (s := 16) (by decide) rfl (by rw [hI.wld]; simp [setL])))
    · exact wp_fa (d := 2) fo77_2 hI.t3 (hK _ _ (hI.put (k := 12) (s := 17) (by decide) rfl (by rw [hI.wld]; simp [setL])))
    · exact wp_ld ld3 (hI.tab 12 (by decide) (by simp [hq])) (hy3 _ hI.wld) (hK _ _ (hI.put (k := 13) (s := 18) (by decide) rfl (by rw [hI.wld]; simp [setL])))
    · have e1 := hI.tab 11 (by decide) (by simp [hq])
      have e2 := hI.tab 13 (by decide) (by simp [hq])
      refine wp_cl (by kernel_rfl) (vs := #[_, _]) (by simp only [List.map_toArray, List.map_cons, List.map_nil]; rw [show a.eval (.tmp 16) = _ from e1, show a.eval (.tmp 18) = _ from e2]; rfl) (cmp38W _ _ w) (hK _ _ (hI.put (k := 14) (s := 19) (by decide) rfl (by rw [hI.wld]; simp [setL])))
    · have e1 := hI.tab 4 (by decide) (by simp [hq])
      have e2 := hI.tab 9 (by decide) (by simp [hq])
      have e3 := hI.tab 14 (by decide) (by simp [hq])
      have hw : w = W1 := by have := hI.wld; rw [hL] at this; simpa using this
      subst hw
      have hrun : (Instr.buildSlice 96 3 #[(0, .int .i64 (sgn x.1 y.1)), (1, .int .i64 (sgn x.2.1 y.2.1)), (2, .int .i64 (sgn x.2.2 y.2.2))]).run Try.prog w = .ok (.slice (some ⟨w.heap.size, 0, none⟩) 3 3) (w.alloc (.cells #[.int .i64 (sgn x.1 y.1), .int .i64 (sgn x.2.1 y.2.1), .int .i64 (sgn x.2.2 y.2.2)] 3)) := by
        kernel_rfl
      unfold Oper.wp
      have hq3 : (#[(0, .tmp 9), (1, .tmp 14), (2, .tmp 19)] : Array (Nat × Operand)).map (fun (i, x) => (i, a.eval x)) = #[(0, .int .i64 (sgn x.1 y.1)), (1, .int .i64 (sgn x.2.1 y.2.1)), (2, .int .i64 (sgn x.2.2 y.2.2))] := by
        simp only [List.map_toArray, List.map_cons, List.map_nil]
        rw [show a.eval (.tmp 9) = _ from e1, show a.eval (.tmp 14) = _ from e2, show a.eval (.tmp 19) = _ from e3]; rfl
      rw [show (execOp a.eval ⟨some 20, .buildSlice 96 3 #[(0, .tmp 9), (1, .tmp 14), (2, .tmp 19)], 96, _, _, none⟩).run Try.prog w = .ok (.value (.slice (some ⟨w.heap.size, 0, none⟩) 3 3)) (w.alloc (.cells #[.int .i64 (sgn x.1 y.1), .int .i64 (sgn x.2.1 y.2.1), .int .i64 (sgn x.2.2 y.2.2)] 3)) by
        show (do pure (.value (← Instr.buildSlice 96 3 ((#[(0, .tmp 9), (1, .tmp 14), (2, .tmp 19)] : Array (Nat × Operand)).map fun (i, x) => (i, a.eval x)))) : Sem Next).run Try.prog w = _
        rw [hq3, Sem.run_bind, hrun]; rfl]
      exact hK _ _ (hI.put (k := 15) (s := 20) (by decide) rfl (by simp [setL]))
    · have e1 := hI.tab 15 (by decide) (by simp [hq])
      have l15 : L 15 = true := by simp [hq]
      have hw : w = W1.alloc (.cells #[.int .i64 (sgn x.1 y.1), .int .i64 (sgn x.2.1 y.2.1), .int .i64 (sgn x.2.2 y.2.2)] 3) := by have := hI.wld; rw [l15] at this; simpa using this
      refine wp_cl (by kernel_rfl) (vs := #[_]) (by simp only [List.map_toArray, List.map_cons, List.map_nil]; rw [show a.eval (.tmp 20) = _ from e1]; rfl) (or37W _ _ _ _ _ w ?_ ?_ ?_) (hK _ _ (hI.put (k := 16) (s := 21) (by decide) rfl (by rw [hI.wld]; simp [setL])))
      · rw [hw]; exact (cell_alloc3' W1 _ _ _ _).1
      · rw [hw]; exact (cell_alloc3' W1 _ _ _ _).2.1
      · rw [hw]; exact (cell_alloc3' W1 _ _ _ _).2.2
    · exact wp_as (hI.tab 16 (by decide) (by simp [hq])) (hK _ _ (hI.put (k := 17) (s := 4) (by decide) rfl (by rw [hI.wld]; simp [setL])))

theorem push2_0 (W : World) (o1 o2 : Obj) : ((W.alloc o1).alloc o2).drew.heap[W.heap.size]? = some o1 := by
  have : ((W.heap.push o1).push o2)[W.heap.size]? = some o1 := by simp [Array.getElem?_push]
  exact this
theorem push2_1 (W : World) (o1 o2 : Obj) : ((W.alloc o1).alloc o2).drew.heap[W.heap.size + 1]? = some o2 := by
  have : ((W.heap.push o1).push o2)[W.heap.size + 1]? = some o2 := by rw [Array.getElem?_push, if_pos (by simp)]
  exact this
set_option maxHeartbeats 2000000 in
set_option maxRecDepth 100000 in
theorem cf36W (x y : K3) (W : World) : Calls Try.prog 36 #[k3V x, k3V y] W fun e w' => e = .returned (.int .i64 (cfK x y)) ∧ ∃ q os, w' = grow (W.drewN q) os := by
  unfold k3V
  have t77 := Try.underlying77; have a77 := Try.isAgg77; have z77 := Try.sizeOf77
  go_enter Try.func36, Try.ntmps36
  go_wp2
  refine cf36R x y _ W.heap.size (W.heap.size + 1) _ _ ?_ ?_ ?_ ?_ ?_ ?_ ?_ ?_ ?_ ?_ _ rfl ?_
  · rw [cell_of_cells (push2_0 W _ _)]; rfl
  · rw [cell_of_cells (push2_0 W _ _)]; rfl
  · rw [cell_of_cells (push2_0 W _ _)]; rfl
  · rw [cell_of_cells (push2_1 W _ _)]; rfl
  · rw [cell_of_cells (push2_1 W _ _)]; rfl
  · rw [cell_of_cells (push2_1 W _ _)]; rfl
  · rfl
  · rfl
  · rfl
  · rfl
  · intro a' w' hd ht hw
    go_wp2
    refine bodyPost_ret (results_tmp rfl a'.tmps Try.prog w') hd ⟨by rw [ht], 1, #[.cells #[.int .i64 x.1, .int .i64 x.2.1, .int .i64 x.2.2] 77] ++ #[.cells #[.int .i64 y.1, .int .i64 y.2.1, .int .i64 y.2.2] 77] ++ #[.cells #[.int .i64 (sgn x.1 y.1), .int .i64 (sgn x.2.1 y.2.1), .int .i64 (sgn x.2.2 y.2.2)] 3], ?_⟩
    rw [hw, alloc_eq_grow, alloc_eq_grow, alloc_eq_grow, drew_grow, grow_grow, drew_grow, grow_grow]
    rfl

end Go.Proofs.Ytdmgljlabigljaa.Ab
