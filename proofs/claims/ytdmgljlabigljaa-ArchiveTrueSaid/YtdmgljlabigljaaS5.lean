/- A region that draws its order, by an invariant, with calls whose ends are told by a property; the program's Ack. -/
import Derived.Test.YtdmgljlabigljaaKD
namespace Go.Proofs.Ytdmgljlabigljaa.Ab
open Go Go.RowKit

section
variable {P : Program} {n : Nat} {rd : Option Nat} {ops : Array Oper} {mu : Nat → Bool} {Q : Exit → Env → Hp → Prop} {T : Env} {H : Hp}

/-- one step of an order -/
def InvStepO (P : Program) (I : (Nat → Bool) → Env → Hp → Prop) (i : Nat) (o : Oper) : Prop :=
  ∀ L T H, L i = false → (o.after.toList.all fun e => !Region.binds .any e || L e.on) = true → I L T H → OpOK P o T H fun v H' => I (setL L i) (putA T o.dst v) H'

theorem inv_soundO (hok : invOk n ops = true) {I : (Nat → Bool) → Env → Hp → Prop} (hs : AllIx (InvStepO P I) 0 ops.toList) (hq : ∀ L T H, (∀ i, i < ops.size → L i = true) → I L T H → Q .normal T H)
    {base : Nat} {w0 : World} {r : Option Nat} {X : Exit → Act → World → Prop} {ds : List Deferred} {g0 : Gh}
    (hX : ∀ T' H' g' a' w', Q .normal T' H' → g0.le g' → Sim base w0 g' H' w' → TRel g' n T' a'.tmps → a'.defers = ds → X .normal a' w') :
    ∀ (fuel : Nat) (listed : Array Bool) (T : Env) (H : Hp) (g : Gh) (w : World) (a : Act), listed.size = ops.size → RoomInvL ops listed fuel → I (fun i => listed.getD i false) T H → g0.le g → Sim base w0 g H w → TRel g n T a.tmps → a.defers = ds →
      wpAnyIn (FR r) 0 P .any ops X fuel listed a w := by
  have hend : ∀ (fuel : Nat) (listed : Array Bool) (T : Env) (H : Hp) (g : Gh) (w : World) (a : Act), listed.size = ops.size → Region.ready .any ops listed = [] → I (fun i => listed.getD i false) T H → g0.le g → Sim base w0 g H w → TRel g n T a.tmps → a.defers = ds →
      wpAnyIn (FR r) 0 P .any ops X fuel listed a w := by
    intro fuel listed T H g w a hsz hr hI hg S hT hd
    refine wpAnyIn_done hr (hX T H g a w (hq _ _ _ (fun i => ?_) hI) hg S hT hd) _
    induction i using Nat.strongRecOn with
    | _ i ih =>
      intro hi
      cases hl : listed.getD i false with
      | true => rfl
      | false =>
        exfalso
        have ho : ops[i]? = some ops[i] := Array.getElem?_eq_getElem hi
        have : i ∈ Region.ready .any ops listed := by
          rw [mem_ready]
          refine ⟨?_, ops[i], ho, fun e he hb => ih e.on ((invOk_spec hok ho).2.2 e he hb) (by have := (invOk_spec hok ho).2.2 e he hb; omega)⟩
          rw [Array.getD_eq_getD_getElem?, Array.getElem?_eq_getElem (by omega), Option.getD_some] at hl ⊢
          exact hl
        rw [hr] at this; cases this
  intro fuel
  induction fuel with
  | zero =>
    intro listed T H g w a hsz hroom hI hg S hT hd
    refine hend 0 listed T H g w a hsz ?_ hI hg S hT hd
    cases hr : Region.ready .any ops listed with
    | nil => rfl
    | cons i rs =>
      have hi : i ∈ Region.ready .any ops listed := by rw [hr]; simp
      obtain ⟨h1, h2, _⟩ := readyInvL hsz hi
      have := hroom [i] (by simp) (by intro j hj; simp at hj; subst hj; exact ⟨h1, h2⟩)
      simp at this
  | succ fuel ih =>
    intro listed T H g w a hsz hroom hI hg S hT hd
    by_cases hr : Region.ready .any ops listed = []
    · exact hend _ listed T H g w a hsz hr hI hg S hT hd
    · refine wpAnyIn_all rfl hr fun i hi => ?_
      obtain ⟨hlt, hli, o, ho, hedges⟩ := readyInvL hsz hi
      obtain ⟨hgd, hdst, _⟩ := invOk_spec hok ho
      have hst := AllIx.get hs (i := i) (o := o) (by simpa using ho)
      rw [Nat.zero_add] at hst
      have hp := hst (fun i => listed.getD i false) T H hli (by
        rw [List.all_eq_true]
        intro e he
        cases hb : Region.binds .any e with
        | false => rfl
        | true => simpa using hedges e (by simpa using he) hb) hI
      unfold wpOpIn
      rw [ho]
      simp only
      rw [if_pos (by unfold Region.wanted; rw [hgd])]
      have hput : ∀ z, (a.put o.dst z).defers = a.defers := by intro z; cases o.dst <;> rfl
      refine hp base w0 g w a r S (fun x _ => evA_rel hT x) _ _ (fun v1 z H1 g' w' hI' hg' S' hR => ?_)
      refine ih _ (putA T o.dst v1) H1 g' w' _ (by simpa using hsz) ?_ ?_ (hg.trans hg') S' ((hT.mono hg').put hdst hR) (by rw [hput]; exact hd)
      · intro Z hZ hk
        have := hroom (i :: Z) (List.nodup_cons.2 ⟨fun hm => by have := (hk i hm).2; rw [setInvL hsz hlt] at this; simp [setL] at this, hZ⟩) (fun k hkm => by
          rcases List.mem_cons.1 hkm with rfl | hkm
          · exact ⟨hlt, hli⟩
          · have h1 := hk k hkm
            refine ⟨h1.1, ?_⟩
            have h2 := h1.2
            rw [setInvL hsz hlt] at h2
            unfold setL at h2
            by_cases hki : k = i
            · rw [if_pos hki] at h2; cases h2
            · rw [if_neg hki] at h2; exact h2)
        simp at this
        omega
      · have e : (fun j => (listed.setIfInBounds i true).getD j false) = setL (fun j => listed.getD j false) i := funext fun j => setInvL hsz hlt j
        rw [e]; exact hI'

/-- a region that draws its order, by an invariant over what has been done -/
theorem Awp.anyInvO {id : Nat} (hm : P.follows .mixedOrders = true) (I : (Nat → Bool) → Env → Hp → Prop) (hok : invOk n ops = true) (h0 : I (fun _ => false) T H) (hs : AllIx (InvStepO P I) 0 ops.toList)
    (hq : ∀ L T H, (∀ i, i < ops.size → L i = true) → I L T H → Q .normal T H) : Awp P n rd (.region id ops true) T H Q := by
  intro base w0 g w a r S hT hr
  refine wpIn_region_any hm ?_
  refine inv_soundO hok hs hq (g0 := g) (ds := a.defers) (fun T' H' g' a' w' hq hg' S' hT' hd => ⟨T', H', g', [], hq, hg', S', hT', hd, Marks.nil _ _⟩) ops.size (Array.replicate ops.size false) T H g _ a (by simp) ?_ ?_ (Gh.le.refl g) S.drew hT rfl
  · intro Z hZ hk
    exact nodup_le _ Z hZ fun k hk' => (hk k hk').1
  · have e : (fun i => (Array.replicate ops.size false).getD i false) = fun _ => false := by
      funext i
      rw [Array.getD_eq_getD_getElem?, Array.getElem?_replicate]
      split <;> rfl
    rw [e]; exact h0

end

end Go.Proofs.Ytdmgljlabigljaa.Ab
