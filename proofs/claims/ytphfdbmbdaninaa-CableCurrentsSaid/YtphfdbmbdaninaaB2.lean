/- A function's contract out of its body; results that never turn again. -/
import Derived.Test.YtphfdbmbdaninaaB1
namespace Go.Proofs.Ytphfdbmbdaninaa.Ab
open Go Go.RowKit

variable {base : Nat} {w0 w w' : World} {g : Gh} {H : Hp} {P : Program}

/-! ### results -/

def resV (P : Program) (T : Env) (H : Hp) : ResultVar → Option AV
  | .tmp t => some (T t)
  | .cell a t => match T a with
    | .rptr cs off => loadA P t cs off
    | .mptr b i off => match H[b]? with
      | some (.cells es _) => match es[i]? with
        | some e => loadA P t e off
        | none => none
      | _ => none
    | _ => none

def resL (P : Program) (T : Env) (H : Hp) : List ResultVar → Option (List AV)
  | [] => some []
  | r :: rs => match resV P T H r, resL P T H rs with
    | some v, some vs => some (v :: vs)
    | _, _ => none

def oneOf : List AV → AV
  | [v] => v
  | vs => .tup vs

def resSem (tmps : Array Value) : ResultVar → Sem Value
  | .tmp t => pure (tmps.getD t undef)
  | .cell a t => do loadVar t (← asAddr (tmps.getD a undef))

theorem resV_run (S : Sim base w0 g H w) {n : Nat} {T : Env} {tmps : Array Value} (hT : TRel g n T tmps) {r : ResultVar} {v : AV} (h : resV P T H r = some v) :
    ∃ z, (resSem tmps r).run P w = .ok z w ∧ R g v z := by
  cases r with
  | tmp t =>
    simp only [resV, Option.some.injEq] at h
    subst h
    exact ⟨_, rfl, hT.slot t⟩
  | cell x t =>
    have hx := hT.slot x
    have fin : ∀ z, (∃ ad : Addr, tmps.getD x undef = .pointer (some ad)) → (Instr.loadAt t (tmps.getD x undef)).run P w = .ok z w → (resSem tmps (.cell x t)).run P w = .ok z w := by
      rintro z ⟨ad, hu⟩ h1
      rw [hu] at h1
      show (do loadVar t (← asAddr (tmps.getD x undef)) : Sem Value).run P w = _
      rw [hu]
      exact h1
    simp only [resV] at h
    split at h
    · rename_i cs off e
      rw [e] at hx
      have hp : ∃ ad : Addr, tmps.getD x undef = .pointer (some ad) := by generalize tmps.getD x undef = u at hx; cases hx; exact ⟨_, rfl⟩
      obtain ⟨z, h1, h2⟩ := loadA_run (w := w) (g := g) h (tmps.getD x undef) hp (fun j c hc => R.rptr_cell S hx hc)
      exact ⟨z, fin z hp h1, h2⟩
    · rename_i b i off e
      rw [e] at hx
      have hp : ∃ ad : Addr, tmps.getD x undef = .pointer (some ad) := by generalize tmps.getD x undef = u at hx; cases hx; exact ⟨_, rfl⟩
      split at h
      · rename_i es t' hb
        split at h
        · rename_i e' he
          obtain ⟨z, h1, h2⟩ := loadA_run (w := w) (g := g) h (tmps.getD x undef) hp (fun j c hc => R.mptr_cell S hx hb he hc)
          exact ⟨z, fin z hp h1, h2⟩
        · cases h
      · cases h
    · cases h

theorem resL_run (S : Sim base w0 g H w) {n : Nat} {T : Env} {tmps : Array Value} (hT : TRel g n T tmps) : ∀ (rs : List ResultVar) (vs : List AV), resL P T H rs = some vs →
    ∃ zs : List Value, (rs.mapM (resSem tmps)).run P w = .ok zs w ∧ RCells g vs zs.toArray
  | [], vs, h => by
    simp only [resL, Option.some.injEq] at h
    subst h
    exact ⟨[], rfl, rfl, by simp⟩
  | r :: rs, vs, h => by
    simp only [resL] at h
    split at h
    · rename_i v vs' h1 h2
      cases h
      obtain ⟨z, k1, k2⟩ := resV_run S hT h1
      obtain ⟨zs, k3, k4⟩ := resL_run S hT rs vs' h2
      refine ⟨z :: zs, ?_, by simpa using k4.size, fun i c u hc hu => ?_⟩
      · rw [List.mapM_cons, Sem.run_bind, k1]
        simp only [Result.andThen_ok, Sem.run_bind]
        rw [k3]
        rfl
      · cases i with
        | zero => simp at hc hu; subst hc; subst hu; exact k2
        | succ i => exact k4.cell i c u (by simpa using hc) (by simpa using hu)
    · cases h

theorem results_run (S : Sim base w0 g H w) {n : Nat} {T : Env} {tmps : Array Value} (hT : TRel g n T tmps) {fn : Func} {vs : List AV} (h : resL P T H fn.results.toList = some vs) :
    ∃ z, (results fn tmps).run P w = .ok z w ∧ R g (oneOf vs) z := by
  obtain ⟨zs, h1, h2⟩ := resL_run S hT fn.results.toList vs h
  have hrun : (results fn tmps).run P w = .ok (if h : zs.toArray.size = 1 then zs.toArray[0] else .tuple zs.toArray) w := by
    show (do let vs ← fn.results.mapM (resSem tmps); pure (if h : vs.size = 1 then vs[0] else .tuple vs) : Sem Value).run P w = _
    rw [Array.mapM_eq_mapM_toList, Sem.run_bind, Sem.run_map, h1]
    rfl
  refine ⟨_, hrun, ?_⟩
  have hsz := h2.size
  cases vs with
  | nil =>
    rw [dif_neg (by simp at hsz; simp [← hsz])]
    exact .tup h2.size h2.cell
  | cons v vs =>
    cases vs with
    | nil =>
      have h1' : zs.toArray.size = 1 := by simpa using hsz.symm
      rw [dif_pos h1']
      exact h2.cell 0 v _ rfl (Array.getElem?_eq_getElem (by omega))
    | cons u us =>
      rw [dif_neg (by simp at hsz; simp; omega)]
      exact .tup h2.size h2.cell

/-! ### the marks are taken -/

theorem Sim.take {r : Nat} (S : Sim base w0 g H w) (hr : g.mr r) : ∃ g' w', (Instr.takeDeferred r).run P w = .ok [] w' ∧ g.same g' ∧ (∀ x, g'.mr x ↔ g.mr x ∧ x ≠ r) ∧ Sim base w0 g' H w' := by
  obtain ⟨h1, h2, h3⟩ := S.marks r hr
  refine ⟨{ g with mr := fun x => g.mr x ∧ x ≠ r }, _, run_takeDeferred h3, ⟨rfl, rfl, rfl, rfl⟩, fun _ => Iff.rfl, ?_⟩
  have hsame : g.same { g with mr := fun x => g.mr x ∧ x ≠ r } := ⟨rfl, rfl, rfl, rfl⟩
  have hoth : ∀ k, k ≠ r → (w.putObj r (.deferred none)).heap[k]? = w.heap[k]? := by
    intro k hk
    simp only [World.putObj]
    rw [Array.getElem?_setIfInBounds_ne (by omega)]
  have hsz : (w.putObj r (.deferred none)).heap.size = w.heap.size := by simp [World.putObj]
  have hnr : ∀ b o v, g.fz b o = some v → b ≠ r := by
    rintro b o v hv rfl
    have := S.fz b o v hv
    simp [World.cell?, h3] at this
  exact
  { below := S.below.trans ⟨rfl, rfl, rfl, by rw [hsz]; exact Nat.le_refl _, fun k hk => hoth k (by omega)⟩
    low := by rw [hsz]; exact S.low
    fz := fun b o v hv => (World.cell?_of_block (a := ⟨b, o, none⟩) (hoth b (hnr b o v hv))).trans (S.fz b o v hv)
    dom := S.dom
    pos := fun b x hx => by rw [hsz]; exact S.pos b x hx
    sep := fun b x ob hb hn hx => ⟨(S.sep b x ob hb hn hx).1, fun h => (S.sep b x ob hb hn hx).2 h.1⟩
    inj := S.inj
    obj := fun b ob hb hn => by
      obtain ⟨x, o, k1, k2, k3⟩ := S.obj b ob hb hn
      refine ⟨x, o, k1, (hoth x (fun e => ?_)).trans k2, k3.same hsame⟩
      subst e
      exact (S.sep b x ob hb hn k1).2 hr
    marks := fun x hx => by
      obtain ⟨k1, k2, k3⟩ := S.marks x hx.1
      exact ⟨k1, by rw [hsz]; exact k2, (hoth x hx.2).trans k3⟩ }

theorem leaves_marks {fn : Func} {n : Nat} {T : Env} {tmps : Array Value} {R0 : Ending → World → Prop} {gi : Gh}
    (hfin : ∀ g w, gi.le g → Sim base w0 g H w → TRel g n T tmps → ∃ v, (results fn tmps).run P w = .ok v w ∧ R0 (.returned v) w) :
    ∀ (ds : List Deferred) (g : Gh) (w : World), Sim base w0 g H w → TRel g n T tmps → gi.le g → Marks gi g ds → LeavesInM Fence.wide 0 P fn tmps R0 ds .returning w
  | [], g, w, S, hT, hg, _ => hfin g w hg S hT
  | d :: ds, g, w, S, hT, hg, hm => by
    obtain ⟨r, rfl, h1, h2⟩ := hm.mark d (by simp)
    obtain ⟨g', w', k1, k2, k3, k4⟩ := S.take (P := P) h1
    have hg' : gi.le g' := ⟨fun b o v h => by rw [k2.fz]; exact hg.fz b o v h, fun b x h => by rw [k2.ph]; exact hg.ph b x h, fun b x h => by rw [k2.ks]; exact hg.ks b x h,
      fun b x h => by rw [k2.cp]; exact hg.cp b x h, fun x h => (k3 x).2 ⟨hg.mr x h, fun e => by subst e; exact h2 h⟩⟩
    refine ⟨by simp, .inl ⟨r, w', rfl, k1, ?_⟩⟩
    refine leaves_marks hfin ds g' w' k4 (hT.same k2) hg' ⟨fun e he => ?_, hm.nodup.tail⟩
    obtain ⟨s, rfl, l1, l2⟩ := hm.mark e (by simp [he])
    refine ⟨s, rfl, (k3 s).2 ⟨l1, fun hs => ?_⟩, l2⟩
    subst hs
    have := (List.pairwise_cons.1 hm.nodup).1 _ he
    simp at this

/-! ### a function -/

def env0 (args : List AV) : Env := fun t => args.getD t (.val undef)

def bodyQ (P : Program) (fn : Func) (H0 : Hp) (Post : AV → Hp → Prop) : Exit → Env → Hp → Prop := fun e T H =>
  (e = .normal ∨ e = .ret) ∧ ∃ vs a H', resL P T H fn.results.toList = some vs ∧ Vs H0 (oneOf vs) H a H' ∧ Post a H'

theorem ACalls.of_body {f : FuncId} {fn : Func} {c : Code} {args : List AV} {Post : AV → Hp → Prop} (hf : P.funcs[f]? = some fn) (hb : fn.body = some c) (hcl : callable P f = true) (hl : args.length ≤ fn.ntmps)
    (h : Awp P fn.ntmps none c (env0 args) H (bodyQ P fn H Post)) : ACalls P f args H Post := by
  refine ⟨hcl, fun base w0 g w vs S hr => ?_⟩
  refine callsIn_of_wp_marks hf hb trivial ?_ rfl
  have hsz := hr.size
  have hT : TRel g fn.ntmps (env0 args) (vs ++ Array.replicate (fn.ntmps - vs.size) undef) := by
    refine ⟨by simp; omega, fun t => ?_⟩
    rw [Array.getD_eq_getD_getElem?, Array.getElem?_append]
    unfold env0
    by_cases ht : t < vs.size
    · rw [if_pos ht, Array.getElem?_eq_getElem ht, Option.getD_some, List.getD_eq_getElem?_getD, List.getElem?_eq_getElem (by omega), Option.getD_some]
      exact hr.cell t _ _ (List.getElem?_eq_getElem (by omega)) (Array.getElem?_eq_getElem ht)
    · rw [if_neg ht, List.getD_eq_getElem?_getD, List.getElem?_eq_none (by omega), Option.getD_none]
      have : ((Array.replicate (fn.ntmps - vs.size) undef)[t - vs.size]?).getD undef = undef := by
        rw [Array.getElem?_replicate]; split <;> rfl
      rw [this]
      exact .val _
  have hw := h base w0 g w { tmps := vs ++ Array.replicate (fn.ntmps - vs.size) undef, defers := [] } none S hT trivial
  refine (wpIn_mono hw fun e a' w' ⟨T', H', g', ds, ⟨he, us, a, H'', h1, h2, h3⟩, h4, h5, h6, h7, h8⟩ => ?_ : Code.wpIn Fence.wide 0 P c _ _ w)
  have hd : a'.defers = ds := by rw [h7]; simp
  have hleave : LeavesInM Fence.wide 0 P fn a'.tmps (fun e w' => ∃ v a H' g', e = .returned v ∧ Post a H' ∧ g.le g' ∧ Sim base w0 g' H' w' ∧ R g' a v) a'.defers .returning w' := by
    rw [hd]
    refine leaves_marks (n := fn.ntmps) (T := T') (gi := g) (fun g2 w2 k1 k2 k3 => ?_) ds g' w' h5 h6 h4 h8
    obtain ⟨z, k4, k5⟩ := results_run k2 k3 h1
    have hbel : ∀ (b : Nat) (ob : AObj), H[b]? = some ob → ob ≠ .dead → BelO H.length ob := by
      intro b ob hb hn
      obtain ⟨x, o, _, _, h3⟩ := S.obj b ob hb hn
      exact h3.bel S.dom
    obtain ⟨g3, k6, k7, k8⟩ := h2 base w0 g g2 w2 z S.dom hbel k1 k2 k5
    exact ⟨z, k4, z, a, H'', g3, rfl, h3, k6, k7, k8⟩
  rcases he with rfl | rfl
  · exact hleave
  · exact hleave

/-! ### what was made never turns again -/

theorem freeze_R (S : Sim base w0 g H w) {b y : Nat} {es : List (List AV)} {t : TypeId} (hb : H[b]? = some (.cells es t)) (hy : g.ph b = some y) :
    ∃ g', g.le g' ∧ Sim base w0 g' (H.set b .dead) w ∧ ∀ off len x, off + len ≤ es.length → R g (.msl b off len) x → R g' (.rsl ((es.drop off).take len) false) x := by
  obtain ⟨z, o, h1, h2, h3⟩ := S.obj b _ hb (by simp)
  rw [hy] at h1; cases h1
  cases h3 with
  | cells hs hl hk hr =>
    rename_i cur
    refine ⟨_, S.freeze_le hb (by simp) hy (es.length * g.ks b) cur, S.freeze hb (by simp) hy h2, fun off len x hfit hR => ?_⟩
    have hle := S.freeze_le hb (by simp) hy (es.length * g.ks b) cur
    cases hR with
    | msl hx hl' hc hm =>
      rename_i x cap
      rw [hy] at hx; cases hx
      have hln : ((es.drop off).take len).length = len := by simp; omega
      have hget : ∀ (i : Nat) (e : List AV), ((es.drop off).take len)[i]? = some e → i < len ∧ es[off + i]? = some e := by
        intro i e he
        rw [List.getElem?_take] at he
        split at he
        · rw [List.getElem?_drop] at he; exact ⟨by assumption, he⟩
        · cases he
      refine R.rsl (k := g.ks b) (fun i j => cur[(off + i) * g.ks b + j]?.getD undef) hln.symm hl' (by simp) hm (fun i e he => hk _ e (hget i e he).2) (fun i j hi hj => ?_) (fun i e j c he hc => ?_)
      · rw [hln] at hi
        show (if y = y then (if off * g.ks b + i * g.ks b + j < es.length * g.ks b then cur[off * g.ks b + i * g.ks b + j]? else none) else _) = _
        have hlt := idx_lt (show off + i < es.length by omega) hj
        have e0 := Nat.add_mul off i (g.ks b)
        rw [if_pos rfl, if_pos (by omega), ← e0]
        have hc2 := Nat.mul_le_mul_right (g.ks b) hl
        have : (off + i) * g.ks b + j < cur.size := by omega
        simp [this]
      · obtain ⟨hi, he'⟩ := hget i e he
        obtain ⟨v, k1, k2⟩ := hr _ e j c he' hc
        simp only [k1, Option.getD_some]
        exact k2.mono hle

theorem Vs.freeze {H0 : Hp} {b off len : Nat} {es : List (List AV)} {t : TypeId} (hb : H[b]? = some (.cells es t)) (hfit : off + len ≤ es.length) :
    Vs H0 (.msl b off len) H (.rsl ((es.drop off).take len) false) (H.set b .dead) := by
  intro base w0 g0 g w x _ _ hg S hR
  have hR' := hR
  cases hR with
  | msl hx hl hc hm =>
    obtain ⟨g', h1, h2, h3⟩ := freeze_R S hb hx
    exact ⟨g', hg.trans h1, h2, h3 off len _ hfit hR'⟩

theorem Vs.freeze_tup {H0 : Hp} {cs : List AV} {i b off len : Nat} {es : List (List AV)} {t : TypeId} (hi : cs[i]? = some (.msl b off len)) (hb : H[b]? = some (.cells es t)) (hfit : off + len ≤ es.length) :
    Vs H0 (.tup cs) H (.tup (cs.set i (.rsl ((es.drop off).take len) false))) (H.set b .dead) := by
  intro base w0 g0 g w x _ _ hg S hR
  cases hR with
  | tup hl hr =>
    rename_i vs
    have hlt : i < vs.size := by rw [← hl]; exact (List.getElem?_eq_some_iff.1 hi).1
    have hRi := hr i _ vs[i] hi (Array.getElem?_eq_getElem hlt)
    have hRi' := hRi
    generalize hv : vs[i] = v at hRi hRi'
    cases hRi with
    | msl hx hl' hc hm =>
      obtain ⟨g', h1, h2, h3⟩ := freeze_R S hb hx
      refine ⟨g', hg.trans h1, h2, .tup (by simpa using hl) (fun j c u hc' hu => ?_)⟩
      rw [List.getElem?_set] at hc'
      split at hc'
      · rename_i e
        subst e
        split at hc'
        · cases hc'
          rw [Array.getElem?_eq_getElem hlt, hv] at hu
          cases hu
          exact h3 off len _ hfit hRi'
        · cases hc'
      · exact (hr j c u hc' hu).mono h1

end Go.Proofs.Ytphfdbmbdaninaa.Ab
