/- Regions that draw their order but for the last operation, which all others stand before. -/
import Derived.Test.YtphfdbmbdaninaaB6
namespace Go.Proofs.Ytphfdbmbdaninaa.Ab
open Go Go.RowKit

variable {base : Nat} {w0 w w' : World} {g : Gh} {H : Hp} {P : Program}

theorem wpIn_monoQ {F : Fence} {n : Nat} {o : Oper} {a : Act} {w : World} {K K' : Act → World → Prop} {Q Q' : Exit → Act → World → Prop} (hk : ∀ a w, K a w → K' a w) (hq : ∀ e a w, e ≠ .normal → Q e a w → Q' e a w)
    (hh : o.wpIn F n P a w K Q) : o.wpIn F n P a w K' Q' := by
  unfold Oper.wpIn at *
  refine ⟨hh.1, ?_⟩
  have hh := hh.2
  have hl : LetsOut Q → LetsOut Q' := fun ⟨a, w, h⟩ => ⟨a, w, hq _ _ _ (by simp) h⟩
  generalize (o.semAt F.round a.eval).run P w = r at *
  cases r with
  | ok x w' =>
    cases x <;> simp only [Oper.uponIn] at hh ⊢ <;>
      first
        | exact hk _ _ hh
        | exact ⟨hh.1, CallsIn.mono hh.2 (fun e w'' he => by cases e <;> first | exact hk _ _ he | exact hq _ _ _ (by simp) he | exact hl he)⟩
        | exact ⟨hh.1, RowsIn.mono hh.2 (fun _ _ he => hk _ _ he)⟩
        | exact ⟨hh.1, RoundIn.mono hh.2 (fun e w'' he => by cases e <;> first | exact hk _ _ he | exact hq _ _ _ (by simp) he | exact hl he)⟩
  | halt x w' => cases x <;> simp only [Oper.uponIn] at hh ⊢ <;> first | exact hq _ _ _ (by simp) hh | exact hh

section last
variable {pre : Array Oper} {last : Oper} {n : Nat} {Q : Exit → Act → World → Prop} {r : Option Nat}

/-- the last operation stands behind all others, and none of these leans on it -/
def lastOk (pre : Array Oper) (last : Oper) : Bool :=
  last.guard.isNone && last.after.all (fun e => !Region.binds .any e || decide (e.on < pre.size)) && (List.range pre.size).all fun i => last.after.any (fun e => Region.binds .any e && (e.on == i || (match pre[e.on]? with | some o => o.after.any (fun e => Region.binds .any e && e.on == i) | none => false))) &&
    (match pre[i]? with | some o => o.after.all (fun e => !Region.binds .any e || decide (e.on < i)) && (match o.guard with | some (j, _) => decide (j < pre.size) | none => true) | none => false)

def lastQ (P : Program) (r : Option Nat) (last : Oper) (Q : Exit → Act → World → Prop) : Exit → Act → World → Prop
  | .normal, a, w => last.wpIn (FR r) 0 P a w (Q .normal) Q
  | e, a, w => Q e a w

theorem getD_push (l : Array Bool) (j : Nat) : (l.push false).getD j false = l.getD j false := by
  rw [Array.getD_eq_getD_getElem?, Array.getD_eq_getD_getElem?, Array.getElem?_push]
  split
  · rename_i h
    rw [Array.getElem?_eq_none (by omega)]; rfl
  · rfl

theorem ready_push {l : Array Bool} (hsz : l.size = pre.size) {i : Nat} (hi : i < pre.size) : i ∈ Region.ready .any (pre.push last) (l.push false) ↔ i ∈ Region.ready .any pre l := by
  rw [mem_ready, mem_ready]
  have h1 : (pre.push last)[i]? = pre[i]? := by rw [Array.getElem?_push, if_neg (by omega)]
  have h2 : (l.push false).getD i true = l.getD i true := by
    rw [Array.getD_eq_getD_getElem?, Array.getD_eq_getD_getElem?, Array.getElem?_push, if_neg (by omega)]
  rw [h1, h2]
  simp only [getD_push]

/-- what has been done has all done that stands before it -/
def ShutL (pre : Array Oper) (l : Array Bool) : Prop := ∀ (k : Nat) (o : Oper), pre[k]? = some o → l.getD k false = true → ∀ e ∈ o.after, Region.binds .any e = true → l.getD e.on false = true

theorem ShutL.set {l : Array Bool} {i : Nat} (hsz : l.size = pre.size) (h : ShutL pre l) (hi : i ∈ Region.ready .any pre l) : ShutL pre (l.setIfInBounds i true) := by
  rw [mem_ready] at hi
  obtain ⟨_, oi, h2, h3⟩ := hi
  have mono : ∀ j, l.getD j false = true → (l.setIfInBounds i true).getD j false = true := by
    intro j hj
    rw [Array.getD_eq_getD_getElem?] at hj ⊢
    rw [Array.getElem?_setIfInBounds]
    split
    · split
      · rfl
      · rename_i h1 h2; rw [Array.getElem?_eq_none (by omega)] at hj; exact hj
    · exact hj
  intro k o ho hk e he hb
  by_cases hki : k = i
  · subst hki
    rw [h2] at ho
    cases ho
    exact mono _ (h3 e he hb)
  · refine mono _ (h k o ho ?_ e he hb)
    rw [Array.getD_eq_getD_getElem?, Array.getElem?_setIfInBounds, if_neg (Ne.symm hki), ← Array.getD_eq_getD_getElem?] at hk
    exact hk

theorem any_last (hok : lastOk pre last = true) : ∀ (fuel : Nat) (l : Array Bool) (a : Act) (w : World), l.size = pre.size → ShutL pre l → wpAnyIn (FR r) 0 P .any pre (lastQ P r last Q) fuel l a w →
    wpAnyIn (FR r) 0 P .any (pre.push last) Q (fuel + 1) (l.push false) a w := by
  unfold lastOk at hok
  simp only [Bool.and_eq_true, List.all_eq_true, List.mem_range] at hok
  obtain ⟨⟨hg, haft⟩, hall⟩ := hok
  have hg : last.guard = none := by simpa using hg
  have hlast : (pre.push last)[pre.size]? = some last := by simp
  have hedge : ∀ i, i < pre.size → ∃ e ∈ last.after, Region.binds .any e = true ∧ (e.on = i ∨ ∃ o, pre[e.on]? = some o ∧ ∃ e2 ∈ o.after, Region.binds .any e2 = true ∧ e2.on = i) := fun i hi => by
    have := (hall i hi).1
    rw [Array.any_eq_true'] at this
    obtain ⟨e, he, h⟩ := this
    simp only [Bool.and_eq_true, Bool.or_eq_true, beq_iff_eq] at h
    refine ⟨e, he, h.1, ?_⟩
    rcases h.2 with h2 | h2
    · exact .inl h2
    · split at h2
      · rename_i o ho
        rw [Array.any_eq_true'] at h2
        obtain ⟨e2, he2, h3⟩ := h2
        simp only [Bool.and_eq_true, beq_iff_eq] at h3
        exact .inr ⟨o, ho, e2, he2, h3.1, h3.2⟩
      · cases h2
  -- with all others done the last one alone is left
  have fin : ∀ (fuel : Nat) (l : Array Bool) (a : Act) (w : World), l.size = pre.size → Region.ready .any pre l = [] → last.wpIn (FR r) 0 P a w (Q .normal) Q →
      wpAnyIn (FR r) 0 P .any (pre.push last) Q (fuel + 1) (l.push false) a w := by
    intro fuel l a w hsz hr hq
    have hdone : ∀ i, i < pre.size → l.getD i false = true := by
      intro i
      induction i using Nat.strongRecOn with
      | _ i ih =>
        intro hi
        cases hl : l.getD i false with
        | true => rfl
        | false =>
          exfalso
          have ho : pre[i]? = some pre[i] := Array.getElem?_eq_getElem hi
          have : i ∈ Region.ready .any pre l := by
            rw [mem_ready]
            refine ⟨by rw [Array.getD_eq_getD_getElem?, Array.getElem?_eq_getElem (by omega)] at hl ⊢; exact hl, pre[i], ho, fun e he hb => ?_⟩
            have h1 := (hall i hi).2
            rw [ho] at h1
            simp only [Bool.and_eq_true] at h1
            have := Array.all_eq_true_iff_forall_mem.1 h1.1 e he
            have hlt : e.on < i := by simpa [hb] using this
            exact ih e.on hlt (by omega)
          rw [hr] at this
          cases this
    have hrm : ∀ i, i ∈ Region.ready .any (pre.push last) (l.push false) → i = pre.size := by
      intro i hi
      have hi' := hi
      rw [mem_ready] at hi
      obtain ⟨h1, o, h2, h3⟩ := hi
      have hlt : i < (pre.push last).size := (Array.getElem?_eq_some_iff.1 h2).1
      simp at hlt
      rcases Nat.lt_or_ge i pre.size with h | h
      · rw [ready_push hsz h, hr] at hi'
        cases hi'
      · omega
    have hrdy : pre.size ∈ Region.ready .any (pre.push last) (l.push false) := by
      rw [mem_ready]
      refine ⟨by rw [Array.getD_eq_getD_getElem?, ← hsz]; simp, last, hlast, fun e he hb => ?_⟩
      rw [getD_push]
      have := Array.all_eq_true_iff_forall_mem.1 haft e he
      exact hdone _ (by simpa [hb] using this)
    refine ⟨fun h0 => (by rw [h0] at hrdy; cases hrdy), fun i hi => ?_⟩
    obtain rfl := hrm i hi
    unfold wpOpIn
    rw [hlast]
    simp only
    rw [if_pos (by unfold Region.wanted; rw [hg])]
    refine wpIn_monoQ (fun a w hq => ?_) (fun _ _ _ _ h => h) hq
    refine wpAnyIn_done ?_ hq _
    rw [List.eq_nil_iff_forall_not_mem]
    intro j hj
    rw [mem_ready] at hj
    obtain ⟨h1, o, h2, h3⟩ := hj
    have hlt : j < (pre.push last).size := (Array.getElem?_eq_some_iff.1 h2).1
    simp at hlt
    rw [Array.getD_eq_getD_getElem?, Array.getElem?_setIfInBounds] at h1
    by_cases hjm : pre.size = j
    · subst hjm
      rw [if_pos rfl, if_pos (by simp; omega)] at h1
      cases h1
    · rw [if_neg hjm, ← Array.getD_eq_getD_getElem?] at h1
      have h4 := hdone j (by omega)
      rw [← getD_push, Array.getD_eq_getD_getElem?, Array.getElem?_eq_getElem (by simp; omega), Option.getD_some] at h4
      rw [Array.getD_eq_getD_getElem?, Array.getElem?_eq_getElem (by simp; omega), Option.getD_some] at h1
      rw [h1] at h4
      cases h4
  have step : ∀ (fuel : Nat) (l : Array Bool) (a : Act) (w : World) (i : Nat), i < pre.size → l.size = pre.size →
      (∀ a w, wpAnyIn (FR r) 0 P .any pre (lastQ P r last Q) fuel (l.setIfInBounds i true) a w → wpAnyIn (FR r) 0 P .any (pre.push last) Q (fuel + 1) ((l.push false).setIfInBounds i true) a w) →
      wpOpIn (FR r) 0 P pre (lastQ P r last Q) i (wpAnyIn (FR r) 0 P .any pre (lastQ P r last Q) fuel (l.setIfInBounds i true)) a w →
      wpOpIn (FR r) 0 P (pre.push last) Q i (wpAnyIn (FR r) 0 P .any (pre.push last) Q (fuel + 1) ((l.push false).setIfInBounds i true)) a w := by
    intro fuel l a w i hi hsz ih h
    have ho : pre[i]? = some pre[i] := Array.getElem?_eq_getElem hi
    have ho' : (pre.push last)[i]? = some pre[i] := by rw [Array.getElem?_push, if_neg (by omega)]; exact ho
    unfold wpOpIn at h ⊢
    rw [ho] at h
    rw [ho']
    simp only at h ⊢
    have hw : Region.wanted pre[i] (yielded (pre.push last) a.tmps) = Region.wanted pre[i] (yielded pre a.tmps) := by
      unfold Region.wanted
      have h1 := (hall i hi).2
      rw [ho] at h1
      simp only [Bool.and_eq_true] at h1
      cases hgd : pre[i].guard with
      | none => rfl
      | some p =>
        obtain ⟨j, want⟩ := p
        have h2 := h1.2
        rw [hgd] at h2
        have hj : j < pre.size := by simpa using h2
        have hy : yielded (pre.push last) a.tmps j = yielded pre a.tmps j := by
          unfold yielded
          rw [Array.getElem?_push, if_neg (by omega)]
        simp only [hy]
    rw [hw]
    split at h
    · rename_i hc
      rw [if_pos hc]
      exact wpIn_monoQ ih (fun e a w hne hq => by cases e <;> first | exact absurd rfl hne | exact hq) h
    · rename_i hc
      rw [if_neg hc]
      exact ⟨h.1, ih _ _ h.2⟩
  intro fuel
  induction fuel with
  | zero => exact fun l a w hsz _ h => fin 0 l a w hsz h.1 h.2
  | succ fuel ih =>
    intro l a w hsz hcl h
    by_cases hr : Region.ready .any pre l = []
    · exact fin _ l a w hsz hr (h.1 hr)
    · refine ⟨fun h0 => ?_, fun i hi => ?_⟩
      · exfalso
        apply hr
        rw [List.eq_nil_iff_forall_not_mem]
        intro i hi
        have hlt : i < pre.size := by
          have := hi
          rw [mem_ready] at this
          obtain ⟨_, o, h2, _⟩ := this
          exact (Array.getElem?_eq_some_iff.1 h2).1
        rw [← ready_push (last := last) hsz hlt, h0] at hi
        cases hi
      · have hlt : i < pre.size := by
          have hi' := hi
          rw [mem_ready] at hi'
          obtain ⟨h1, o, h2, h3⟩ := hi'
          have hle : i < (pre.push last).size := (Array.getElem?_eq_some_iff.1 h2).1
          simp at hle
          rcases Nat.lt_or_ge i pre.size with h | h
          · exact h
          · exfalso
            have hie : i = pre.size := by omega
            subst hie
            rw [hlast] at h2
            cases h2
            apply hr
            rw [List.eq_nil_iff_forall_not_mem]
            intro j hj
            rw [mem_ready] at hj
            obtain ⟨k1, o2, k2, _⟩ := hj
            have hjl : j < pre.size := (Array.getElem?_eq_some_iff.1 k2).1
            obtain ⟨e, he, hb, hj2⟩ := hedge j hjl
            have h5 := h3 e he hb
            rw [getD_push] at h5
            have : l.getD j false = true := by
              rcases hj2 with rfl | ⟨o3, ho3, e2, he2, hb2, rfl⟩
              · exact h5
              · exact hcl _ _ ho3 h5 e2 he2 hb2
            rw [Array.getD_eq_getD_getElem?, Array.getElem?_eq_getElem (by omega), Option.getD_some] at this
            rw [Array.getD_eq_getD_getElem?, Array.getElem?_eq_getElem (by omega), Option.getD_some] at k1
            rw [k1] at this
            cases this
        refine step fuel l a w i hlt hsz (fun a w hx => ?_) (h.2 i ((ready_push hsz hlt).1 hi))
        have := ih (l.setIfInBounds i true) a w (by simpa using hsz) (hcl.set hsz ((ready_push hsz hlt).1 hi)) hx
        have e : (l.setIfInBounds i true).push false = (l.push false).setIfInBounds i true := by
          apply Array.ext_getElem?
          intro j
          rw [Array.getElem?_push, Array.getElem?_setIfInBounds, Array.getElem?_setIfInBounds, Array.getElem?_push, Array.size_setIfInBounds, Array.size_push]
          by_cases hj : j = l.size
          · subst hj
            rw [if_pos rfl, if_neg (by omega), if_pos rfl]
          · rw [if_neg hj, if_neg hj]
            by_cases hij : i = j
            · subst hij
              rw [if_pos rfl, if_pos rfl, if_pos (by omega), if_pos (by omega)]
            · rw [if_neg hij, if_neg hij]
        rwa [e] at this

end last

/-- a region that draws its order but for the last operation -/
theorem Awp.drawnLast {n : Nat} {rd : Option Nat} {T : Env} {Q : Exit → Env → Hp → Prop} {id : Nat} {pre : Array Oper} {last : Oper} (hm : P.follows .mixedOrders = true) (mu : Nat → Bool) (W : Draw) (bs : List Nat) (hok : drawOk mu W pre bs = true) (hl : lastOk pre last = true)
    (h : wpO P mu n (some W) [] pre.toList T H (fun T' H' => wpO P mu n none (pre.toList.map (·.dst)) [last] T' H' (Q .normal))) : Awp P n rd (.region id (pre.push last) true) T H Q := by
  intro base w0 g w a r S hT hr
  refine wpIn_region_any hm ?_
  have hg : last.guard = none := by
    unfold lastOk at hl
    simp only [Bool.and_eq_true] at hl
    simpa using hl.1.1
  obtain ⟨Ts, Hs, vs, t0, h0, hK, hst⟩ := trace_of _ _ _ _ h
  have hst' : ∀ (i : Nat) (o : Oper), pre[i]? = some o → StepR P mu n W i (pre.toList.map (·.dst)) o (Ts i) (Hs i) (vs i) (Ts (i + 1)) (Hs (i + 1)) := by
    intro i o ho
    have := hst i o (by simpa using ho)
    simpa using this
  have hrep : ∀ i, (Array.replicate pre.size false).getD i false = false := by
    intro i
    rw [Array.getD_eq_getD_getElem?, Array.getElem?_replicate]; split <;> rfl
  have hT0 : ∀ m, Tc pre T vs (fun i => (Array.replicate pre.size false).getD i false) m = T := by
    intro m
    induction m with
    | zero => rfl
    | succ m ih =>
      show (if (Array.replicate pre.size false).getD m false = true then _ else _) = T
      rw [if_neg (by rw [hrep]; simp), ih]
  have hH0 : ∀ m, Hc H Hs W.ev (fun i => (Array.replicate pre.size false).getD i false) m = H := by
    intro m
    induction m with
    | zero => rfl
    | succ m ih =>
      show (if ((Array.replicate pre.size false).getD m false && W.ev m) = true then _ else _) = H
      rw [if_neg (by rw [hrep]; simp), ih]
  rw [show (Array.replicate (pre.push last).size false) = (Array.replicate pre.size false).push false by
    rw [Array.size_push, Array.replicate_succ], Array.size_push]
  refine any_last hl _ _ _ _ (by simp) (fun k o _ hk => by rw [hrep] at hk; cases hk) ?_
  refine any_sound (base := base) (w0 := w0) (n := n) (K := fun T' H' => wpO P mu n none (pre.toList.map (·.dst)) [last] T' H' (Q .normal)) (g0 := g) (ds := a.defers) (drawOk_spec hok) t0 h0 hst' (by simpa using hK) ?_ pre.size _ g _ a (by simp) (fun i j _ _ hl _ => by rw [hrep] at hl; cases hl) (fun S hS hk => ?_) (Gh.le.refl g)
    (by rw [hH0]; exact S.drew) (by rw [hT0]; exact hT) rfl
  · intro T' H' g' w' a' hk hg2 S' hT' hd
    obtain ⟨hdst, b, hb, h1, h2⟩ := hk
    unfold guardA at hb
    rw [hg] at hb
    cases hb
    have hput : ∀ z, (a'.put last.dst z).defers = a'.defers := by intro z; cases last.dst <;> rfl
    refine (h1 rfl).ok base w0 g' w' a' r S' (fun x _ => evA_rel hT' x) _ _ (fun v z H2 g2 w2 hk2 hg3 S2 hR => ?_)
    exact ⟨_, H2, g2, [], hk2, hg2.trans hg3, S2, (hT'.mono hg3).put hdst hR, by rw [hput]; exact hd, Marks.nil _ _⟩
  · exact nodup_le _ S hS fun k hkm => (hk k hkm).1

end Go.Proofs.Ytphfdbmbdaninaa.Ab
