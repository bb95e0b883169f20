/- stepA is what the machine does. Calls, and regions of operations in the order of the text. Awp: an abstract weakest precondition of code, its rules, and a function's contract out of its body. Regions that draw their order of evaluation: the order does not matter. -/
import Derived.Test.YtphfdbmbdaninaaYB
import Derived.RangeFuncRecord
import Derived.OrdersIn
namespace Go.Proofs.Ytphfdbmbdaninaa.Ab
open Go Go.RowKit

variable {base : Nat} {w0 w w' : World} {g : Gh} {H : Hp} {P : Program}

def RunsTo (P : Program) (o : Oper) (a : Act) (w : World) (v : Value) (w' : World) : Prop :=
  (execOp a.eval o).run P w = .ok (.value v) w' ∨ ((execOp a.eval o).run P w = .ok .skip w' ∧ v = undef)

theorem box_run (S : Sim base w0 g H w) {m : Bool} {elem : TypeId} {cs : List AV} {vs : Array Value} {r : AV} {H' : Hp} (h : boxA m elem cs H = (r, H')) (hc : RCells g cs vs) :
    ∃ g', g.le g' ∧ Sim base w0 g' H' (w.alloc (.cells vs elem)) ∧ R g' r (.pointer (some ⟨w.heap.size, 0, none⟩)) := by
  unfold boxA at h
  split at h
  · cases h; exact box_own S hc elem
  · cases h; exact box_fz S hc elem

theorem parts_rel {T : Env} {a : Act} (ps : Array (Nat × Operand)) (hr : ∀ x ∈ ps.toList.map (·.2), R g (evA T x) (a.eval x)) :
    (partsA (evA T) ps).length = (ps.map fun (i, x) => (i, a.eval x)).size ∧
    ∀ (n : Nat) (p : Nat × AV) (q : Nat × Value), (partsA (evA T) ps)[n]? = some p → (ps.map fun (i, x) => (i, a.eval x))[n]? = some q → p.1 = q.1 ∧ R g p.2 q.2 := by
  refine ⟨by simp [partsA], fun n p q hp hq => ?_⟩
  simp only [partsA, List.getElem?_map, Array.getElem?_toList, Array.getElem?_map, Option.map_eq_some_iff] at hp hq
  obtain ⟨x, hx, rfl⟩ := hp
  obtain ⟨y, hy, rfl⟩ := hq
  rw [hx] at hy
  cases hy
  exact ⟨rfl, hr x.2 (List.mem_map.2 ⟨x, by simpa using Array.mem_of_getElem? hx, rfl⟩)⟩

theorem list_rel {T : Env} {a : Act} (xs : Array Operand) (hr : ∀ x ∈ xs, R g (evA T x) (a.eval x)) :
    (xs.toList.map (evA T)).length = (xs.map a.eval).size ∧ ∀ (i : Nat) (c : AV) (v : Value), (xs.toList.map (evA T))[i]? = some c → (xs.map a.eval)[i]? = some v → R g c v := by
  refine ⟨by simp, fun i c v hc hv => ?_⟩
  simp only [List.getElem?_map, Array.getElem?_toList, Array.getElem?_map, Option.map_eq_some_iff] at hc hv
  obtain ⟨x, hx, rfl⟩ := hc
  obtain ⟨y, hy, rfl⟩ := hv
  rw [hx] at hy
  cases hy
  exact hr x (Array.mem_of_getElem? hx)

theorem pure_map {o : Option AV} {r : AV} {H H' : Hp} (h : o.map (·, H) = some (r, H')) : o = some r ∧ H' = H := by
  cases o with
  | none => cases h
  | some x => cases h; exact ⟨rfl, rfl⟩

theorem part_of {cs : List AV} {vs : Array Value} {ty : TypeId} {off : Nat} {r : AV} (hc : RCells g cs vs) (hl : loadA P ty cs off = some r) : ∃ v, (part ty vs off).run P w = .ok v w ∧ R g r v := by
  unfold loadA at hl
  have hagg : ∀ n, off + n ≤ cs.length → R g (.agg ((cs.drop off).take n)) (.agg (vs.extract off (off + n))) := by
    intro n hn
    have := hc.size
    refine .agg (by simp; omega) (fun i c v hc' hv' => ?_)
    rw [List.getElem?_take] at hc'
    split at hc'
    · rename_i hi
      rw [List.getElem?_drop] at hc'
      rw [Array.getElem?_extract] at hv'
      split at hv'
      · exact hc.cell _ _ _ hc' hv'
      · cases hv'
    · cases hc'
  split at hl
  · rename_i fs' i hu' hi
    split at hl
    · cases hl
      exact ⟨_, by simp [part, run_isAgg _ _ hu', run_sizeOf _ _ hi], hagg _ (by assumption)⟩
    · cases hl
  · rename_i n' e' i hu' hi
    split at hl
    · cases hl
      exact ⟨_, by simp [part, run_isAgg _ _ hu', run_sizeOf _ _ hi], hagg _ (by assumption)⟩
    · cases hl
  · rename_i d i hs ha hu' hi
    obtain ⟨v, h1, h2⟩ := hc.get hl
    have hb : (isAgg ty).run P w = .ok false w := by
      rw [run_isAgg _ _ hu']
      cases d <;> first | rfl | exact absurd rfl (hs _) | exact absurd rfl (ha _ _)
    exact ⟨v, by simp [part, hb, h1], h2⟩
  · cases hl


theorem stepA_sound (S : Sim base w0 g H w) {mu : Nat → Bool} {o : Oper} {T : Env} {a : Act} {r : AV} {H' : Hp} (h : stepA P mu o T H = some (r, H')) (hr : ∀ x ∈ o.op.operands, R g (evA T x) (a.eval x)) :
    ∃ v g' w', RunsTo P o a w v w' ∧ g.le g' ∧ Sim base w0 g' H' w' ∧ R g' r v := by
  obtain ⟨dst, op, type, pos, after, guard⟩ := o
  cases op with
  | move x =>
    simp only [stepA, Option.some.injEq, Prod.mk.injEq] at h
    obtain ⟨rfl, rfl⟩ := h
    exact ⟨_, g, w, .inl rfl, Gh.le.refl g, S, hr x (by simp [Op.operands])⟩
  | assign x =>
    simp only [stepA, Option.some.injEq, Prod.mk.injEq] at h
    obtain ⟨rfl, rfl⟩ := h
    exact ⟨_, g, w, .inl rfl, Gh.le.refl g, S, hr x (by simp [Op.operands])⟩
  | pick c x y =>
    have hc := hr c (by simp [Op.operands])
    have hx := hr x (by simp [Op.operands])
    have hy := hr y (by simp [Op.operands])
    simp only [stepA] at h
    split at h
    · rename_i t e
      rw [e] at hc
      generalize hcv : a.eval c = cv at hc
      cases hc
      simp only [Option.some.injEq, Prod.mk.injEq] at h
      obtain ⟨rfl, rfl⟩ := h
      refine ⟨if t then a.eval x else a.eval y, g, w, .inl ?_, Gh.le.refl g, S, ?_⟩
      · simp [execOp, hcv, asBool]
      · cases t <;> assumption
    · cases h
  | alloc elem =>
    simp only [stepA] at h
    split at h
    · rename_i z' hz'
      simp only [Option.some.injEq] at h
      unfold zeroA at hz'
      split at hz'
      · rename_i i hi
        split at hz'
        · rename_i z hz
          cases hz'
          obtain ⟨g', h1, h2, h3⟩ := box_run S h (RCells.vals z.cells)
          exact ⟨_, g', _, .inl (by simp [execOp, Instr.alloc, zeroValue, typeInfo, hi, hz, newVar, newRow]), h1, h2, h3⟩
        · cases hz'
      · cases hz'
    · cases h
  | box elem x =>
    simp only [stepA, Option.some.injEq] at h
    obtain ⟨g', h1, h2, h3⟩ := box_run S h (hr x (by simp [Op.operands])).cells
    exact ⟨_, g', _, .inl (by simp [execOp, Instr.box, newVar, newRow]), h1, h2, h3⟩
  | build t ps =>
    simp only [stepA] at h
    obtain ⟨hq, hH⟩ := pure_map h; subst hH; clear h; have h := hq; clear hq
    obtain ⟨hl, hp⟩ := parts_rel (g := g) (T := T) (a := a) ps (fun x hx => hr x (by simpa [Op.operands] using hx))
    obtain ⟨v, h1, h2⟩ := build_run (w := w) h hl hp
    exact ⟨v, g, w, .inl (by show (do pure (.value (← Instr.build t (ps.map fun (i, x) => (i, a.eval x)))) : Sem Next).run P w = _; rw [Sem.run_bind, h1]; rfl), Gh.le.refl g, S, h2⟩
  | buildSlice t len ps =>
    obtain ⟨hl, hp⟩ := parts_rel (g := g) (T := T) (a := a) ps (fun x hx => hr x (by simpa [Op.operands] using hx))
    simp only [stepA] at h
    split at h
    · rename_i es e hlit
      obtain ⟨k, us, h1, h2, h3, h4⟩ := lit_run (w := w) hlit hl hp
      split at h
      · cases h
        obtain ⟨g', k1, k2, k3⟩ := own_new S (w' := w.alloc (.cells us.toArray e)) (cur := us.toArray) (t := e) (cp := len) h2 (by simp [h2.size, h3]) (by omega) (by rw [← h2.size]; simp) h4 (World.grownBy_alloc w _ none) (heap_alloc_new w _)
        subst h3
        exact ⟨_, g', _, .inl (by show (do pure (.value (← Instr.buildSlice t es.length (ps.map fun (i, x) => (i, a.eval x)))) : Sem Next).run P w = _; rw [Sem.run_bind, h1]; rfl), k1, k2, k3⟩
      · cases h
        obtain ⟨g', k1, k2, k3⟩ := lit_fz S h2 (by omega) e
        subst h3
        exact ⟨_, g', _, .inl (by show (do pure (.value (← Instr.buildSlice t es.length (ps.map fun (i, x) => (i, a.eval x)))) : Sem Next).run P w = _; rw [Sem.run_bind, h1]; rfl), k1, k2, k3⟩
    · cases h
  | load t x =>
    have hx := hr x (by simp [Op.operands])
    simp only [stepA] at h
    split at h
    · rename_i cs off e
      rw [e] at hx
      obtain ⟨hq, hH⟩ := pure_map h; subst hH; clear h; have h := hq; clear hq
      obtain ⟨v, h1, h2⟩ := loadA_run (w := w) (g := g) h (a.eval x) (by generalize a.eval x = u at hx; cases hx; exact ⟨_, rfl⟩) (fun j c hc => R.rptr_cell S hx hc)
      exact ⟨v, g, w, .inl (by simp only [execOp, Sem.run_bind, h1, Result.andThen_ok, Sem.run_pure]), Gh.le.refl g, S, h2⟩
    · rename_i b i off e
      rw [e] at hx
      split at h
      · rename_i es t' hb
        split at h
        · rename_i e' he
          obtain ⟨hq, hH⟩ := pure_map h; subst hH; clear h; have h := hq; clear hq
          obtain ⟨v, h1, h2⟩ := loadA_run (w := w) (g := g) h (a.eval x) (by generalize a.eval x = u at hx; cases hx; exact ⟨_, rfl⟩) (fun j c hc => R.mptr_cell S hx hb he hc)
          exact ⟨v, g, w, .inl (by simp only [execOp, Sem.run_bind, h1, Result.andThen_ok, Sem.run_pure]), Gh.le.refl g, S, h2⟩
        · cases h
      · cases h
    · cases h
  | store t x y =>
    have hx := hr x (by simp [Op.operands])
    have hy := hr y (by simp [Op.operands])
    simp only [stepA] at h
    split at h
    · rename_i b i off e
      rw [e] at hx
      split at h
      · rename_i es ty k hb hk
        obtain ⟨inf, hi, rfl⟩ := Option.map_eq_some_iff.1 hk
        split at h
        · rename_i e' he
          split at h
          · rename_i hif
            cases h
            obtain ⟨w', h1, h2⟩ := store_own S hx hb he hy hi hif.1 hif.2.1 hif.2.2
            exact ⟨undef, g, w', .inr ⟨by simp only [execOp, Sem.run_bind, h1, Result.andThen_ok, Sem.run_pure], rfl⟩, Gh.le.refl g, h2, .val _⟩
          · cases h
        · cases h
      · cases h
    · cases h
  | nilCheck x =>
    have hx := hr x (by simp [Op.operands])
    simp only [stepA] at h
    split at h
    all_goals first
      | (cases h; done)
      | (rename_i e
         rw [e] at hx
         cases h
         refine ⟨a.eval x, g, w, .inl ?_, Gh.le.refl g, S, hx⟩
         generalize hu : a.eval x = u at hx
         cases hx <;> simp [execOp, hu])
  | binOp op t x y t' =>
    simp only [stepA] at h
    obtain ⟨hq, hH⟩ := pure_map h; subst hH; clear h; have h := hq; clear hq
    obtain ⟨z, h1, rfl⟩ := binA_run (w := w) h (hr x (by simp [Op.operands])) (hr y (by simp [Op.operands]))
    refine ⟨z, g, w, .inl ?_, Gh.le.refl g, S, .val z⟩
    simp only [execOp, Sem.run_bind] at h1 ⊢
    rw [h1]
    rfl
  | unOp op t x =>
    simp only [stepA] at h
    obtain ⟨hq, hH⟩ := pure_map h; subst hH; clear h; have h := hq; clear hq
    obtain ⟨z, h1, rfl⟩ := unA_run (w := w) h (hr x (by simp [Op.operands]))
    exact ⟨z, g, w, .inl (by simp only [execOp, Sem.run_bind, h1, Result.andThen_ok, Sem.run_pure]), Gh.le.refl g, S, .val z⟩
  | convert src dst' x =>
    simp only [stepA] at h
    obtain ⟨hq, hH⟩ := pure_map h; subst hH; clear h; have h := hq; clear hq
    obtain ⟨z, h1, rfl⟩ := convA_run (w := w) h (hr x (by simp [Op.operands]))
    exact ⟨z, g, w, .inl (by simp only [execOp, Sem.run_bind, h1, Result.andThen_ok, Sem.run_pure]), Gh.le.refl g, S, .val z⟩
  | makeFunc f first captured =>
    simp only [stepA] at h
    split at h
    · rename_i k
      split at h
      · rename_i h0
        cases h
        obtain ⟨hl, hp⟩ := list_rel (g := g) (T := T) (a := a) captured (fun x hx => hr x (by simp [Op.operands, hx]))
        refine ⟨.func (.func k) #[] (captured.map a.eval), g, w, .inl ?_, Gh.le.refl g, S, .fn (by simp) hl hp⟩
        have : first = #[] := Array.eq_empty_of_size_eq_zero h0
        subst this
        simp [execOp, Instr.makeFunc]
      · split at h
        · rename_i h0
          cases h
          obtain ⟨hl, hp⟩ := list_rel (g := g) (T := T) (a := a) first (fun x hx => hr x (by simp [Op.operands, hx]))
          refine ⟨.func (.func k) (first.map a.eval) #[], g, w, .inl ?_, Gh.le.refl g, S, .mth hl hp⟩
          have : captured = #[] := Array.eq_empty_of_size_eq_zero h0
          subst this
          simp [execOp, Instr.makeFunc]
        · cases h
    · cases h
  | makeSlice t l c =>
    have hl := hr l (by simp [Op.operands])
    have hc := hr c (by simp [Op.operands])
    simp only [stepA] at h
    split at h
    · rename_i kl n kc m e1 e2
      rw [e1] at hl
      rw [e2] at hc
      generalize hlv : a.eval l = lv at hl
      generalize hcv : a.eval c = cv at hc
      cases hl; cases hc
      split at h
      · rename_i hnm
        subst hnm
        split at h
        · rename_i es e hmk
          cases h
          obtain ⟨v, w', g', h1, h2, h3, h4⟩ := make_own S (kl := kl) (kc := kc) hmk
          exact ⟨v, g', w', .inl (by simp only [execOp, Sem.run_bind, hlv, hcv, h1, Result.andThen_ok, Sem.run_pure]), h2, h3, h4⟩
        · cases h
      · cases h
    · cases h
  | slice t x lo hi mx =>
    simp only [stepA] at h
    obtain ⟨hq, hH⟩ := pure_map h; subst hH; clear h; have h := hq; clear hq
    have ho : ∀ (y : Option Operand), (∀ z, y = some z → z ∈ (Op.slice t x lo hi mx).operands) → ROpt g (y.map (evA T)) (y.map a.eval) := by
      intro y hy
      cases y with
      | none => exact trivial
      | some z => exact hr z (hy z rfl)
    obtain ⟨v, h1, h2⟩ := slice_run (w := w) h (hr x (by simp [Op.operands])) (ho lo (by intro z hz; subst hz; simp [Op.operands])) (ho hi (by intro z hz; subst hz; simp [Op.operands])) (ho mx (by intro z hz; subst hz; simp [Op.operands]))
    exact ⟨v, g, w, .inl (by simp only [execOp, Sem.run_bind, h1, Result.andThen_ok, Sem.run_pure]), Gh.le.refl g, S, h2⟩
  | fieldAddr s x f =>
    have hx := hr x (by simp [Op.operands])
    simp only [stepA] at h
    split at h
    · rename_i d hd
      split at h
      · rename_i cs off e
        rw [e] at hx
        cases h
        obtain ⟨ad, h1, h2⟩ := rptr_add (d := d) hx
        exact ⟨_, g, w, .inl (by simp only [execOp, Sem.run_bind, h1, fieldOff_run hd, Result.andThen_ok, Sem.run_pure]), Gh.le.refl g, S, h2⟩
      · rename_i b i off e
        rw [e] at hx
        cases h
        obtain ⟨ad, h1, h2⟩ := mptr_add (d := d) hx
        exact ⟨_, g, w, .inl (by simp only [execOp, Sem.run_bind, h1, fieldOff_run hd, Result.andThen_ok, Sem.run_pure]), Gh.le.refl g, S, h2⟩
      · cases h
    · cases h
  | field t x f =>
    have hx := hr x (by simp [Op.operands])
    simp only [stepA] at h
    have key : ∀ (cs : List AV) (vs : Array Value) (fs : Array Field) (fl : Field), RCells g cs vs → a.eval x = .agg vs → P.underlying t = some (.struct fs) → fs[f]? = some fl → loadA P fl.type cs fl.offset = some r →
        ∃ v, (execOp a.eval { dst, op := .field t x f, type, pos, after, guard }).run P w = .ok (.value v) w ∧ R g r v := by
      intro cs vs fs fl hc hv hu hf hl
      have hpart : ∃ v, (part fl.type vs fl.offset).run P w = .ok v w ∧ R g r v := part_of hc hl
      obtain ⟨v, h1, h2⟩ := hpart
      exact ⟨v, by simp [execOp, Instr.field, run_underlying hu, hf, hv, asAgg, h1], h2⟩
    have hfld : ∀ ft fo, fieldTO P t f = some (ft, fo) → ∃ fs fl, P.underlying t = some (.struct fs) ∧ fs[f]? = some fl ∧ fl.type = ft ∧ fl.offset = fo := by
      intro ft fo hq
      unfold fieldTO at hq
      split at hq
      · rename_i fs hu
        split at hq
        · rename_i fl hf
          cases hq
          exact ⟨fs, fl, hu, hf, rfl, rfl⟩
        · cases hq
      · cases hq
    split at h
    · rename_i cs ft fo e hq
      obtain ⟨fs, fl, hu, hf, rfl, rfl⟩ := hfld _ _ hq
      rw [e] at hx
      obtain ⟨hq, hH⟩ := pure_map h; subst hH; clear h; have h := hq; clear hq
      generalize hxv : a.eval x = xv at hx
      cases hx with
      | agg hl hr' =>
        obtain ⟨v, h1, h2⟩ := key cs _ fs fl ⟨hl, hr'⟩ hxv hu hf h
        exact ⟨v, g, w, .inl h1, Gh.le.refl g, S, h2⟩
    · rename_i vs ft fo e hq
      obtain ⟨fs, fl, hu, hf, rfl, rfl⟩ := hfld _ _ hq
      rw [e] at hx
      obtain ⟨hq, hH⟩ := pure_map h; subst hH; clear h; have h := hq; clear hq
      generalize hxv : a.eval x = xv at hx
      cases hx
      obtain ⟨v, h1, h2⟩ := key _ _ fs fl (RCells.vals vs) hxv hu hf h
      exact ⟨v, g, w, .inl h1, Gh.le.refl g, S, h2⟩
    · cases h
  | indexAddr t x i =>
    have hx := hr x (by simp [Op.operands])
    have hi := hr i (by simp [Op.operands])
    simp only [stepA] at h
    have hsl : ∀ e k, elemA P t = .sl e k → ∃ inf, P.underlying t = some (.slice e) ∧ P.info? e = some inf ∧ inf.size = k := by
      intro e k hq
      unfold elemA at hq
      split at hq
      · rename_i e' hu
        split at hq
        · rename_i k' hk
          cases hq
          obtain ⟨inf, hi, rfl⟩ := Option.map_eq_some_iff.1 hk
          exact ⟨inf, hu, hi, rfl⟩
        · cases hq
      · split at hq
        · split at hq <;> cases hq
        · cases hq
      · cases hq
    have har : ∀ m e k, elemA P t = .ar m e k → ∃ inf, P.underlying t = some (.array m e) ∧ P.info? e = some inf ∧ inf.size = k ∧ 2 ≤ m := by
      intro m e k hq
      unfold elemA at hq
      split at hq
      · split at hq <;> cases hq
      · rename_i n' e' hu
        split at hq
        · rename_i k' hk
          split at hq
          · cases hq
            obtain ⟨inf, hi, rfl⟩ := Option.map_eq_some_iff.1 hk
            exact ⟨inf, hu, hi, rfl, by assumption⟩
          · cases hq
        · cases hq
      · cases hq
    split at h
    · rename_i k n e
      rw [e] at hi
      generalize hiv : a.eval i = iv at hi
      cases hi
      split at h
      · rename_i h0
        split at h
        · rename_i es ex el k e2 hq
          obtain ⟨inf, hu, hinf, rfl⟩ := hsl _ _ hq
          rw [e2] at hx
          split at h
          · rename_i c hc
            split at h
            · rename_i hlen
              cases h
              obtain ⟨ad, m, cap, h1, h2, h3⟩ := rsl_index hx hc
              subst h2
              have hn : n.toNat < es.length := (List.getElem?_eq_some_iff.1 hc).1
              rw [hlen] at h3
              refine ⟨_, g, w, .inl ?_, Gh.le.refl g, S, h3⟩
              have hlt : n < (es.length : Int) := by omega
              simp [execOp, Instr.indexAt, hiv, h1, asIntOf, run_underlying hu, h0, hlt, run_sizeOf _ _ hinf]
            · cases h
          · cases h
        · rename_i b off len el k e2 hq
          obtain ⟨inf, hu, hinf, rfl⟩ := hsl _ _ hq
          rw [e2] at hx
          split at h
          · rename_i es t' hb
            split at h
            · rename_i hn
              split at h
              · rename_i c hc
                split at h
                · rename_i hlen
                  cases h
                  obtain ⟨ad, cap, h1, h3⟩ := msl_index S hx hb hc
                  rw [hlen] at h3
                  refine ⟨_, g, w, .inl ?_, Gh.le.refl g, S, h3⟩
                  have hlt : n < (len : Int) := by omega
                  simp [execOp, Instr.indexAt, hiv, h1, asIntOf, run_underlying hu, h0, hlt, run_sizeOf _ _ hinf]
                · cases h
              · cases h
            · cases h
          · cases h
        · rename_i cs off m el k e2 hq
          obtain ⟨inf, hu, hinf, rfl, h2⟩ := har _ _ _ hq
          rw [e2] at hx
          split at h
          · rename_i hlt
            cases h
            obtain ⟨ad, h1, h3⟩ := rptr_add (d := n.toNat * inf.size) hx
            refine ⟨_, g, w, .inl ?_, Gh.le.refl g, S, h3⟩
            simp [execOp, Instr.indexAt, Instr.sureAddr, hiv, h1, asIntOf, run_underlying hu, h0, hlt, run_sizeOf _ _ hinf]
          · cases h
        · rename_i b j off m el k e2 hq
          obtain ⟨inf, hu, hinf, rfl, h2⟩ := har _ _ _ hq
          rw [e2] at hx
          split at h
          · rename_i hlt
            cases h
            obtain ⟨ad, h1, h3⟩ := mptr_add (d := n.toNat * inf.size) hx
            refine ⟨_, g, w, .inl ?_, Gh.le.refl g, S, h3⟩
            simp [execOp, Instr.indexAt, Instr.sureAddr, hiv, h1, asIntOf, run_underlying hu, h0, hlt, run_sizeOf _ _ hinf]
          · cases h
        · cases h
      · cases h
    · cases h
  | index t x i =>
    simp only [stepA] at h
    split at h
    · rename_i u v hu hv
      simp only [Option.map_eq_some_iff, Prod.mk.injEq] at h
      obtain ⟨z, hz, rfl, rfl⟩ := h
      have e1 := (hr x (by simp [Op.operands])).flat u hu
      have e2 := (hr i (by simp [Op.operands])).flat v hv
      refine ⟨z, g, w, .inl ?_, Gh.le.refl g, S, .val z⟩
      simp only [execOp, Sem.run_bind, e1, e2, pureRun_run hz w, Result.andThen_ok, Sem.run_pure]
    · rename_i kk n _ hv
      have e2 := (hr i (by simp [Op.operands])).flat _ hv
      have hx := hr x (by simp [Op.operands])
      split at h
      · rename_i cs m e k ecs hq
        rw [ecs] at hx
        split at h
        · rename_i hnm
          obtain ⟨hq2, hH⟩ := pure_map h; subst hH; clear h; have h := hq2; clear hq2
          unfold elemA at hq
          split at hq
          · split at hq <;> cases hq
          · rename_i n' e' hu
            split at hq
            · rename_i k' hk
              split at hq
              · cases hq
                unfold sizeA at hk
                generalize hxv : a.eval x = xv at hx
                cases hx with
                | agg hl hr' =>
                  obtain ⟨v, h1, h2⟩ := part_of (w := w) ⟨hl, hr'⟩ h
                  refine ⟨v, g, w, .inl ?_, Gh.le.refl g, S, h2⟩
                  obtain ⟨inf, hinf, rfl⟩ : ∃ inf, P.info? e = some inf ∧ inf.size = k := by
                    cases hi : P.info? e with
                    | none => rw [hi] at hk; cases hk
                    | some inf => rw [hi] at hk; first | (cases hk; exact ⟨inf, rfl, rfl⟩) | (simp at hk; exact ⟨inf, rfl, hk⟩)
                  simp [execOp, Instr.index, hxv, e2, asIntOf, run_underlying hu, hnm, run_sizeOf _ _ hinf, h1]
              · cases hq
            · cases hq
          · cases hq
        · cases h
      · cases h
    · cases h
  | extract t ix =>
    have hx := hr t (by simp [Op.operands])
    simp only [stepA] at h
    split at h
    · rename_i cs e
      rw [e] at hx
      obtain ⟨hq, hH⟩ := pure_map h; subst hH; clear h; have h := hq; clear hq
      generalize hxv : a.eval t = xv at hx
      cases hx with
      | tup hl hr' =>
        obtain ⟨v, h1, h2⟩ := (RCells.mk hl hr').get h
        exact ⟨v, g, w, .inl (by simp [execOp, Instr.extract, hxv, h1]), Gh.le.refl g, S, h2⟩
    · rename_i vs e
      rw [e] at hx
      generalize hxv : a.eval t = xv at hx
      cases hx
      simp only [Option.map_eq_some_iff, Prod.mk.injEq] at h
      obtain ⟨z, hz, rfl, rfl⟩ := h
      exact ⟨z, g, w, .inl (by simp [execOp, Instr.extract, hxv, hz]), Gh.le.refl g, S, .val z⟩
    · cases h
  | makeMap t reserve =>
    cases reserve with
    | some _ => simp [stepA] at h
    | none =>
      simp only [stepA] at h
      cases h
      have S2 := S.alloc (k := 0) (c := 0) (ob := .amap []) (World.grownBy_alloc w (.map #[] 0) none) (heap_alloc_new _ _) (.amap rfl (by simp) stamped_nil)
      exact ⟨.map (some w.heap.size), _, _, .inl (by simp only [execOp, Option.map_none, Sem.run_bind, run_makeMap, Result.andThen_ok, Sem.run_pure]), Gh.phAdd_le S.fresh, S2, .mp (by simp [Gh.phAdd])⟩
  | lookup t x i ok =>
    simp only [stepA] at h
    obtain ⟨hq, hH⟩ := pure_map h; subst hH; clear h; have h := hq; clear hq
    obtain ⟨v, h1, h2⟩ := lookA_run S h (hr x (by simp [Op.operands])) (hr i (by simp [Op.operands]))
    exact ⟨v, g, w, .inl (by simp only [execOp, Sem.run_bind, h1, Result.andThen_ok, Sem.run_pure]), Gh.le.refl g, S, h2⟩
  | mapUpdate t m k v =>
    simp only [stepA, Option.map_eq_some_iff, Prod.mk.injEq] at h
    obtain ⟨H1, h, rfl, rfl⟩ := h
    obtain ⟨w', h1, h2⟩ := updA_run S h (hr m (by simp [Op.operands])) (hr k (by simp [Op.operands])) (hr v (by simp [Op.operands]))
    exact ⟨undef, g, w', .inr ⟨by simp only [execOp, Sem.run_bind, h1, Result.andThen_ok, Sem.run_pure], rfl⟩, Gh.le.refl g, h2, .val _⟩
  | call c =>
    obtain ⟨callee, args, aT⟩ := c
    simp only [stepA] at h
    split at h
    · rename_i b
      obtain ⟨hl, hp⟩ := list_rel (g := g) (T := T) (a := a) args (fun x hx => hr x (by simp [Op.operands, Call.operands, hx]))
      have hexec : ∀ (v : Value) (w' : World), (∀ consts, (builtin b aT type consts (args.map a.eval)).run P w = .ok (.value v) w') → (execOp a.eval { dst, op := .call ⟨.builtin b, args, aT⟩, type, pos, after, guard }).run P w = .ok (.value v) w' := by
        intro v w' hb
        simp only [execOp, resolve, invoke, Sem.run_bind, Sem.run_pure, Result.andThen_ok]
        exact hb _
      unfold builtinA at h
      split at h
      · rename_i t x e1 e2
        obtain ⟨hq, hH⟩ := pure_map h; subst hH; clear h; have h := hq; clear hq
        
        have hsz : (args.map a.eval).size = 1 := by rw [← hl, e2]; rfl
        have hxx := hp 0 x ((args.map a.eval)[0]) (by rw [e2]; rfl) (Array.getElem?_eq_getElem (by omega))
        have hargs : args.map a.eval = #[(args.map a.eval)[0]] := by
          apply Array.ext
          · simpa using hsz
          · intro i h1 h2
            have : i = 0 := by omega
            subst this
            rfl
        have haT : aT = #[t] := by apply Array.ext'; simpa using e1
        obtain ⟨v, h1, h2⟩ := lenA_run (ty := type) S h hxx
        refine ⟨v, g, w, .inl (hexec v w fun consts => ?_), Gh.le.refl g, S, h2⟩
        rw [hargs, haT]
        simp only [builtin, Sem.run_bind, h1, Result.andThen_ok, Sem.run_pure]
      · rename_i t t' s x e1 e2
        have hsz : (args.map a.eval).size = 2 := by rw [← hl, e2]; rfl
        have hss := hp 0 s ((args.map a.eval)[0]) (by rw [e2]; rfl) (Array.getElem?_eq_getElem (by omega))
        have hxx := hp 1 x ((args.map a.eval)[1]) (by rw [e2]; rfl) (Array.getElem?_eq_getElem (by omega))
        have hargs : args.map a.eval = #[(args.map a.eval)[0], (args.map a.eval)[1]] := by
          apply Array.ext
          · simpa using hsz
          · intro i h1 h2
            have : i = 0 ∨ i = 1 := by omega
            rcases this with rfl | rfl <;> rfl
        have haT : aT = #[t, t'] := by apply Array.ext'; simpa using e1
        obtain ⟨v, g', w', h1, h2, h3, h4⟩ := appendA_run (ty := type) S h hss hxx
        refine ⟨v, g', w', .inl (hexec v w' fun consts => ?_), h2, h3, h4⟩
        rw [hargs, haT]
        simp only [builtin, Sem.run_bind, h1, Result.andThen_ok, Sem.run_pure]
      · obtain ⟨hq, hH⟩ := pure_map h; subst hH; clear h; have h := hq; clear hq
        obtain ⟨z, h1, rfl⟩ := maxA_run (P := P) (w := w) true _ (args.map a.eval).toList r aT type h (by simp) (fun i c u hc hu => hp i c u hc (by simpa using hu))
        refine ⟨z, g, w, .inl (hexec z w fun consts => ?_), Gh.le.refl g, S, .val z⟩
        simp only [if_true, Array.toArray_toList] at h1
        simp only [builtin, Sem.run_bind, h1, Result.andThen_ok, Sem.run_pure]
      · obtain ⟨hq, hH⟩ := pure_map h; subst hH; clear h; have h := hq; clear hq
        obtain ⟨z, h1, rfl⟩ := maxA_run (P := P) (w := w) false _ (args.map a.eval).toList r aT type h (by simp) (fun i c u hc hu => hp i c u hc (by simpa using hu))
        refine ⟨z, g, w, .inl (hexec z w fun consts => ?_), Gh.le.refl g, S, .val z⟩
        simp only [Bool.false_eq_true, if_false, Array.toArray_toList] at h1
        simp only [builtin, Sem.run_bind, h1, Result.andThen_ok, Sem.run_pure]
      · rename_i t t' m k e1 e2
        simp only [Option.map_eq_some_iff, Prod.mk.injEq] at h
        obtain ⟨H1, h, rfl, rfl⟩ := h
        have hsz : (args.map a.eval).size = 2 := by rw [← hl, e2]; rfl
        have hmm := hp 0 m ((args.map a.eval)[0]) (by rw [e2]; rfl) (Array.getElem?_eq_getElem (by omega))
        have hkk := hp 1 k ((args.map a.eval)[1]) (by rw [e2]; rfl) (Array.getElem?_eq_getElem (by omega))
        have hargs : args.map a.eval = #[(args.map a.eval)[0], (args.map a.eval)[1]] := by
          apply Array.ext
          · simpa using hsz
          · intro i h1 h2
            have : i = 0 ∨ i = 1 := by omega
            rcases this with rfl | rfl <;> rfl
        have haT : aT = #[t, t'] := by apply Array.ext'; simpa using e1
        obtain ⟨w', h1, h2⟩ := delA_run (t2 := t') (ty := type) S h hmm hkk
        refine ⟨.tuple #[], g, w', .inl (hexec _ w' fun consts => ?_), Gh.le.refl g, h2, .val _⟩
        rw [hargs, haT]
        simp only [builtin, Sem.run_bind, h1, Result.andThen_ok, Sem.run_pure]
      · cases h
    · cases h
  | _ => simp [stepA] at h

end Go.Proofs.Ytphfdbmbdaninaa.Ab
namespace Go.Proofs.Ytphfdbmbdaninaa.Ab
open Go Go.RowKit

variable {base : Nat} {w0 w w' : World} {g : Gh} {H : Hp} {P : Program}

/-- all functions, no depth; in the round of the loop r -/
def FR (r : Option Nat) : Fence := { Fence.wide with round := r }

def callable (P : Program) (k : FuncId) : Bool :=
  match P.funcs[k]? with
  | some fn => fn.body.isSome && !(fn.name == "runtime.NumGoroutine")
  | none => false

/-- a call of function f comes to a value and a heap of which Post holds -/
def ACalls (P : Program) (f : FuncId) (args : List AV) (H : Hp) (Post : AV → Hp → Prop) : Prop :=
  callable P f = true ∧ ∀ (base : Nat) (w0 : World) (g : Gh) (w : World) (vs : Array Value), Sim base w0 g H w → RCells g args vs →
    CallsIn Fence.wide 0 P f vs w fun e w' => ∃ v a H' g', e = .returned v ∧ Post a H' ∧ g.le g' ∧ Sim base w0 g' H' w' ∧ R g' a v

/-- a call of the yield of the loop b -/
def AYield (P : Program) (b : Nat) (args : List AV) (H : Hp) (Post : AV → Hp → Prop) : Prop :=
  ∀ (base : Nat) (w0 : World) (g : Gh) (w : World) (vs : Array Value) (l : Nat), Sim base w0 g H w → RCells g args vs → g.ph b = some l →
    ∃ fn tmps assign body, (Instr.yield l vs).run P w = .ok (.round l fn tmps assign body) w ∧
      RoundIn Fence.wide 0 P l fn tmps assign body w fun e w' => ∃ v a H' g', e = .returned v ∧ Post a H' ∧ g.le g' ∧ Sim base w0 g' H' w' ∧ R g' a v

def ACallV (P : Program) (fv : AV) (args : List AV) (H : Hp) (Post : AV → Hp → Prop) : Prop :=
  match fv with
  | .fn (.func k) cap => ACalls P k (args ++ cap) H Post
  | .mth k pre => ACalls P k (pre ++ args) H Post
  | .fn (.yield b) [] => AYield P b args H Post
  | _ => False

theorem ACalls.mono {f : FuncId} {args : List AV} {Post Post' : AV → Hp → Prop} (h : ACalls P f args H Post) (hp : ∀ a H', Post a H' → Post' a H') : ACalls P f args H Post' :=
  ⟨h.1, fun base w0 g w vs S hr => (h.2 base w0 g w vs S hr).mono fun _ _ ⟨v, a, H', g', h1, h2, h3⟩ => ⟨v, a, H', g', h1, hp a H' h2, h3⟩⟩

theorem AYield.mono {b : Nat} {args : List AV} {Post Post' : AV → Hp → Prop} (h : AYield P b args H Post) (hp : ∀ a H', Post a H' → Post' a H') : AYield P b args H Post' :=
  fun base w0 g w vs l S hr hl => by
    obtain ⟨fn, tmps, assign, body, h1, h2⟩ := h base w0 g w vs l S hr hl
    exact ⟨fn, tmps, assign, body, h1, h2.mono fun _ _ ⟨v, a, H', g', k1, k2, k3⟩ => ⟨v, a, H', g', k1, hp a H' k2, k3⟩⟩

theorem ACallV.mono {fv : AV} {args : List AV} {Post Post' : AV → Hp → Prop} (h : ACallV P fv args H Post) (hp : ∀ a H', Post a H' → Post' a H') : ACallV P fv args H Post' := by
  unfold ACallV at h ⊢
  split at h
  · exact ACalls.mono h hp
  · exact ACalls.mono h hp
  · exact AYield.mono h hp
  · exact h.elim

theorem RCells.append {cs ds : List AV} {vs us : Array Value} (h : RCells g cs vs) (k : RCells g ds us) : RCells g (cs ++ ds) (vs ++ us) := by
  have h1 := h.size
  have h2 := k.size
  refine ⟨by simp [h1, h2], fun i c v hc hv => ?_⟩
  rw [List.getElem?_append] at hc
  rw [Array.getElem?_append] at hv
  by_cases hi : i < cs.length
  · rw [if_pos hi] at hc
    rw [if_pos (by omega)] at hv
    exact h.cell i c v hc hv
  · rw [if_neg hi] at hc
    rw [if_neg (by omega), ← h1] at hv
    exact k.cell _ c v hc hv

def callOf (o : Oper) : Option (Operand × Array Operand) :=
  match o.op with
  | .call ⟨.value f, args, _⟩ => some (f, args)
  | _ => none

theorem callOf_eq {o : Oper} {f : Operand} {args : Array Operand} (h : callOf o = some (f, args)) : ∃ aT, o.op = .call ⟨.value f, args, aT⟩ := by
  unfold callOf at h
  split at h
  · rename_i f' args' aT e
    cases h
    exact ⟨aT, e⟩
  · cases h

/-- the machine's word for one operation: it ends in a value of which k holds -/
def OpOK (P : Program) (o : Oper) (T : Env) (H : Hp) (k : AV → Hp → Prop) : Prop :=
  ∀ (base : Nat) (w0 : World) (g : Gh) (w : World) (a : Act) (r : Option Nat), Sim base w0 g H w → (∀ x ∈ o.op.operands, R g (evA T x) (a.eval x)) →
    ∀ (next : Act → World → Prop) (Q : Exit → Act → World → Prop),
      (∀ v z H' g' w', k v H' → g.le g' → Sim base w0 g' H' w' → R g' v z → next (a.put o.dst z) w') → o.wpIn (FR r) 0 P a w next Q

theorem OpOK.call {o : Oper} {f : Operand} {args : Array Operand} {T : Env} {k : AV → Hp → Prop} (ho : callOf o = some (f, args)) (h : ACallV P (evA T f) (args.toList.map (evA T)) H k) : OpOK P o T H k := by
  obtain ⟨aT, ho⟩ := callOf_eq ho
  intro base w0 g w a r S hr next Q hn
  have hf := hr f (by simp [ho, Op.operands, Call.operands])
  obtain ⟨hl, hp⟩ := list_rel (g := g) (T := T) (a := a) args (fun x hx => hr x (by simp [ho, Op.operands, Call.operands, hx]))
  have hargs : RCells g (args.toList.map (evA T)) (args.map a.eval) := ⟨hl, hp⟩
  have hex : o.semAt (FR r).round a.eval = execOp a.eval o := Oper.semAt_eq _ _ _ (by intro c hc; rw [ho] at hc; cases hc)
  refine ⟨fun _ _ => trivial, ?_⟩
  rw [hex]
  unfold ACallV at h
  split at h
  · rename_i k' cap e
    rw [e] at hf
    generalize hfv : a.eval f = fv at hf
    cases hf with
    | fn hy hcl hcr =>
      rename_i vs
      obtain ⟨hc1, hc2⟩ := h
      have hcall := hc2 base w0 g w (args.map a.eval ++ vs) S (hargs.append ⟨hcl, hcr⟩)
      have hrun : (execOp a.eval o).run P w = .ok (.enter k' (args.map a.eval ++ vs)) w := by
        unfold callable at hc1
        split at hc1
        · rename_i fn hfn
          simp only [Bool.and_eq_true, Bool.not_eq_true'] at hc1
          have hb : fn.body ≠ none := by intro hb; simp [hb] at hc1
          have hne : fn.name ≠ "runtime.NumGoroutine" := by simpa using hc1.2
          simp [execOp, ho, resolve, Deferred.ofValue, hfv, invoke, callFunc, hfn, hne, hb]
        · cases hc1
      rw [hrun, Oper.uponIn_enter]
      refine ⟨fun h => by simp [FR, Fence.wide] at h, ?_⟩
      refine (CallsIn.mono hcall fun e w' ⟨v, a', H', g', h1, h2, h3, h4, h5⟩ => ?_ : CallsIn Fence.wide 0 P k' (args.map a.eval ++ vs) w _)
      subst h1
      exact hn a' v H' g' w' h2 h3 h4 h5
  · rename_i k' pre e
    rw [e] at hf
    generalize hfv : a.eval f = fv at hf
    cases hf with
    | mth hcl hcr =>
      rename_i vs
      obtain ⟨hc1, hc2⟩ := h
      have hcall := hc2 base w0 g w (vs ++ args.map a.eval) S (RCells.append ⟨hcl, hcr⟩ hargs)
      have hrun : (execOp a.eval o).run P w = .ok (.enter k' (vs ++ args.map a.eval)) w := by
        unfold callable at hc1
        split at hc1
        · rename_i fn hfn
          simp only [Bool.and_eq_true, Bool.not_eq_true'] at hc1
          have hb : fn.body ≠ none := by intro hb; simp [hb] at hc1
          have hne : fn.name ≠ "runtime.NumGoroutine" := by simpa using hc1.2
          simp [execOp, ho, resolve, Deferred.ofValue, hfv, invoke, callFunc, hfn, hne, hb]
        · cases hc1
      rw [hrun, Oper.uponIn_enter]
      refine ⟨fun h => by simp [FR, Fence.wide] at h, ?_⟩
      refine (CallsIn.mono hcall fun e w' ⟨v, a', H', g', h1, h2, h3, h4, h5⟩ => ?_ : CallsIn Fence.wide 0 P k' (vs ++ args.map a.eval) w _)
      subst h1
      exact hn a' v H' g' w' h2 h3 h4 h5
  · rename_i b e
    rw [e] at hf
    generalize hfv : a.eval f = fv at hf
    cases hf with
    | fn hy _ _ => exact absurd rfl (hy b)
    | yld hb =>
      rename_i l
      obtain ⟨fn, tmps, assign, body, h1, h2⟩ := h base w0 g w (args.map a.eval) l S hargs hb
      have hrun : (execOp a.eval o).run P w = .ok (.round l fn tmps assign body) w := by
        simp [execOp, ho, resolve, Deferred.ofValue, hfv, invoke, h1]
      rw [hrun, Oper.uponIn_round]
      refine ⟨fun h => by simp [FR, Fence.wide] at h, ?_⟩
      refine (RoundIn.mono h2 fun e w' ⟨v, a', H', g', k1, k2, k3, k4, k5⟩ => ?_ : RoundIn Fence.wide 0 P l fn tmps assign body w _)
      subst k1
      exact hn a' v H' g' w' k2 k3 k4 k5
  · exact h.elim

theorem OpOK.step {mu : Nat → Bool} {o : Oper} {T : Env} {k : AV → Hp → Prop} {v : AV} {H' : Hp} (h : stepA P mu o T H = some (v, H')) (hk : k v H') : OpOK P o T H k := by
  intro base w0 g w a r S hr next Q hn
  obtain ⟨z, g', w', hrun, h1, h2, h3⟩ := stepA_sound S h hr
  have hnd : ∀ c, o.op ≠ .defer c := by
    intro c hc
    simp [stepA, hc] at h
  have hex : o.semAt (FR r).round a.eval = execOp a.eval o := Oper.semAt_eq _ _ _ hnd
  refine ⟨fun _ _ => trivial, ?_⟩
  rw [hex]
  rcases hrun with hrun | ⟨hrun, rfl⟩
  · rw [hrun]; exact hn v z H' g' w' hk h1 h2 h3
  · rw [hrun]; exact hn v undef H' g' w' hk h1 h2 h3

/-! ### the operations of a region -/

def upd (T : Env) (d : Nat) (v : AV) : Env := fun s => if s = d then v else T s

def putA (T : Env) : Option Tmp → AV → Env
  | none, _ => T
  | some d, v => upd T d v

def dstOk (n : Nat) : Option Tmp → Bool
  | none => true
  | some d => decide (d < n)

theorem TRel.put {n : Nat} {T : Env} {a : Act} {dst : Option Tmp} {v : AV} {z : Value} (h : TRel g n T a.tmps) (hd : dstOk n dst = true) (hv : R g v z) : TRel g n (putA T dst v) (a.put dst z).tmps := by
  cases dst with
  | none => exact h
  | some d =>
    have hd' : d < n := by simpa [dstOk] using hd
    have hlt : d < a.tmps.size := by rw [h.size]; exact hd'
    refine ⟨by simp [Act.put, h.size], fun t => ?_⟩
    simp only [putA, upd, Act.put, Array.getD_eq_getD_getElem?, Array.getElem?_setIfInBounds]
    by_cases e : t = d
    · subst e
      rw [if_pos rfl, if_pos rfl, if_pos hlt]
      exact hv
    · rw [if_neg e, if_neg (fun h => e h.symm)]
      have := h.slot t
      rwa [Array.getD_eq_getD_getElem?] at this

/-- is the operation wanted? -/
def guardA (done : List (Option Tmp)) (gd : Option (Nat × Bool)) (T : Env) : Option Bool :=
  match gd with
  | none => some true
  | some (j, want) => match done[j]? with
    | some (some s) => match T s with
      | .val (.bool t) => some (t == want)
      | .val _ => some false
      | _ => none
    | _ => none

theorem guardA_wanted {n : Nat} {ops : List Oper} {done : List (Option Tmp)} {o : Oper} {rest : List Oper} {T : Env} {a : Act} {b : Bool} (hT : TRel g n T a.tmps)
    (hops : ops.map (·.dst) = done ++ (o :: rest).map (·.dst)) (hn : ∀ d ∈ done, dstOk n d = true) (h : guardA done o.guard T = some b) : Region.wanted o (yielded ops.toArray a.tmps) = b := by
  unfold guardA at h
  unfold Region.wanted
  split at h
  · rename_i e
    rw [e]
    cases h
    rfl
  · rename_i j want e
    rw [e]
    split at h
    · rename_i s hs
      have hj : j < done.length := (List.getElem?_eq_some_iff.1 hs).1
      have hdst : (ops.toArray[j]?).bind (·.dst) = some s := by
        have : (ops.map (·.dst))[j]? = some (some s) := by rw [hops, List.getElem?_append_left hj]; exact hs
        rw [List.getElem?_map, Option.map_eq_some_iff] at this
        obtain ⟨x, hx, hd⟩ := this
        simp [hx, hd]
      have hsn : s < n := by
        have := hn (some s) (List.mem_of_getElem? hs)
        simpa [dstOk] using this
      have hlt : s < a.tmps.size := by rw [hT.size]; exact hsn
      have hslot := hT.slot s
      rw [Array.getD_eq_getD_getElem?] at hslot
      obtain ⟨x, hx⟩ : ∃ x, a.tmps[s]? = some x := ⟨_, Array.getElem?_eq_getElem hlt⟩
      rw [hx, Option.getD_some] at hslot
      simp only [yielded, hdst, Option.bind_some, hx]
      split at h
      · rename_i t et
        rw [et] at hslot
        cases hslot
        cases h
        simp
      · rename_i v hnb ev
        rw [ev] at hslot
        cases hslot
        cases h
        cases x <;> first | rfl | exact absurd rfl (hnb _ )
      · cases h
    · cases h

/-- what an operation comes to -/
def PerfTo (P : Program) (mu : Nat → Bool) (o : Oper) (T : Env) (H : Hp) (v : AV) (H' : Hp) : Prop :=
  match callOf o with
  | some (f, args) => ACallV P (evA T f) (args.toList.map (evA T)) H fun v1 H1 => v1 = v ∧ H1 = H'
  | none => stepA P mu o T H = some (v, H')

theorem PerfTo.ok {mu : Nat → Bool} {o : Oper} {T : Env} {v : AV} {H' : Hp} (h : PerfTo P mu o T H v H') : OpOK P o T H fun v1 H1 => v1 = v ∧ H1 = H' := by
  unfold PerfTo at h
  split at h
  · rename_i f args e; exact OpOK.call e h
  · exact OpOK.step h ⟨rfl, rfl⟩

/-- a region that draws its order: which operations may turn the heap; which look at blocks alone that no operation turns, and so may stand anywhere; these blocks -/
structure Draw where
  ev : Nat → Bool
  rf : Nat → Bool
  keep : Nat → Bool

def Draw.of (ev : Nat → Bool) : Draw := ⟨ev, fun _ => false, fun _ => false⟩
def Draw.agree (W : Draw) (H H2 : Hp) : Prop := ∀ b, W.keep b = true → H2[b]? = H[b]?

theorem Draw.agree.refl (W : Draw) (H : Hp) : W.agree H H := fun _ _ => rfl
theorem Draw.agree.symm {W : Draw} {H H2 : Hp} (h : W.agree H H2) : W.agree H2 H := fun b hb => (h b hb).symm
theorem Draw.agree.trans {W : Draw} {H H2 H3 : Hp} (h : W.agree H H2) (k : W.agree H2 H3) : W.agree H H3 := fun b hb => (k b hb).trans (h b hb)

def okD (P : Program) (mu : Nat → Bool) (d : Option Draw) (i : Nat) (o : Oper) (T : Env) (H : Hp) (v : AV) (H' : Hp) : Prop :=
  match d with
  | none => True
  | some W => (W.ev i = false → H' = H) ∧ W.agree H H' ∧ (W.rf i = true → ∀ H2, W.agree H H2 → PerfTo P mu o T H2 v H2)

def Perf (P : Program) (mu : Nat → Bool) (d : Option Draw) (i : Nat) (o : Oper) (T : Env) (H : Hp) (k : AV → Hp → Prop) : Prop :=
  match d with
  | none => match callOf o with
    | some (f, args) => ACallV P (evA T f) (args.toList.map (evA T)) H k
    | none => ∃ v H', stepA P mu o T H = some (v, H') ∧ k v H'
  | some W => ∃ v H', PerfTo P mu o T H v H' ∧ okD P mu (some W) i o T H v H' ∧ k v H'

theorem Perf.mono {mu : Nat → Bool} {d : Option Draw} {i : Nat} {o : Oper} {T : Env} {k k' : AV → Hp → Prop} (h : Perf P mu d i o T H k) (hk : ∀ v H', k v H' → k' v H') : Perf P mu d i o T H k' := by
  unfold Perf at h ⊢
  split
  · simp only at h
    split
    · rename_i f args e
      rw [e] at h
      exact ACallV.mono h hk
    · rename_i e
      rw [e] at h
      obtain ⟨v, H', h1, h2⟩ := h
      exact ⟨v, H', h1, hk _ _ h2⟩
  · obtain ⟨v, H', h1, h2, h3⟩ := h
    exact ⟨v, H', h1, h2, hk _ _ h3⟩

theorem Perf.of {mu : Nat → Bool} {d : Option Draw} {i : Nat} {o : Oper} {T : Env} {k : AV → Hp → Prop} {v : AV} {H' : Hp} (h : PerfTo P mu o T H v H') (ho : okD P mu d i o T H v H') (hk : k v H') : Perf P mu d i o T H k := by
  cases d with
  | some W => exact ⟨v, H', h, ho, hk⟩
  | none =>
    unfold PerfTo at h
    unfold Perf
    simp only
    split
    · rename_i f args e
      rw [e] at h
      exact ACallV.mono h fun a H1 ⟨e1, e2⟩ => by subst e1; subst e2; exact hk
    · rename_i e
      rw [e] at h
      exact ⟨v, H', h, hk⟩

theorem Perf.ok {mu : Nat → Bool} {d : Option Draw} {i : Nat} {o : Oper} {T : Env} {k : AV → Hp → Prop} (h : Perf P mu d i o T H k) : OpOK P o T H k := by
  unfold Perf at h
  split at h
  · split at h
    · rename_i f args e
      exact OpOK.call e h
    · obtain ⟨v, H', h1, h2⟩ := h
      exact OpOK.step h1 h2
  · obtain ⟨v, H', h1, _, h2⟩ := h
    intro base w0 g w a r S hr next Q hn
    exact h1.ok base w0 g w a r S hr next Q fun v1 z H1 g' w' ⟨e1, e2⟩ hg S' hR => by subst e1; subst e2; exact hn _ z _ g' w' h2 hg S' hR

def wpO (P : Program) (mu : Nat → Bool) (n : Nat) (d : Option Draw) : List (Option Tmp) → List Oper → Env → Hp → (Env → Hp → Prop) → Prop
  | _, [], T, H, K => K T H
  | done, o :: rest, T, H, K => dstOk n o.dst = true ∧ ∃ b, guardA done o.guard T = some b ∧
      (b = true → Perf P mu d done.length o T H fun v H' => wpO P mu n d (done ++ [o.dst]) rest (putA T o.dst v) H' K) ∧
      (b = false → wpO P mu n d (done ++ [o.dst]) rest (putA T o.dst (.val undef)) H K)

theorem wpO_sound {mu : Nat → Bool} {n : Nat} {d : Option Draw} {ops : List Oper} {r : Option Nat} {Q : Exit → Act → World → Prop} {base : Nat} {w0 : World} {ds : List Deferred} {g0 : Gh} {K : Env → Hp → Prop}
    (hQ : ∀ T H g w a, K T H → g0.le g → Sim base w0 g H w → TRel g n T a.tmps → a.defers = ds → Q .normal a w) :
    ∀ (l : List Oper) (done : List (Option Tmp)) (T : Env) (H : Hp) (g : Gh) (w : World) (a : Act), ops.map (·.dst) = done ++ l.map (·.dst) → (∀ d ∈ done, dstOk n d = true) → g0.le g → Sim base w0 g H w →
      TRel g n T a.tmps → a.defers = ds → wpO P mu n d done l T H K → wpListIn (FR r) 0 P ops.toArray Q l a w
  | [], done, T, H, g, w, a, _, _, hg, S, hT, hd, h => hQ T H g w a h hg S hT hd
  | o :: rest, done, T, H, g, w, a, hops, hn, hg, S, hT, hd, h => by
    obtain ⟨hdst, b, hb, h1, h2⟩ := h
    have hw := guardA_wanted hT hops hn hb
    have hops' : ops.map (·.dst) = (done ++ [o.dst]) ++ rest.map (·.dst) := by rw [hops]; simp
    have hn' : ∀ d ∈ done ++ [o.dst], dstOk n d = true := by
      intro d hd'
      rcases List.mem_append.1 hd' with h | h
      · exact hn d h
      · simp at h; subst h; exact hdst
    have hput : ∀ z, (a.put o.dst z).defers = a.defers := by intro z; cases o.dst <;> rfl
    unfold wpListIn
    cases b with
    | true =>
      rw [if_pos hw]
      refine (h1 rfl).ok base w0 g w a r S (fun x _ => evA_rel hT x) _ _ (fun v z H' g' w' hk hg' S' hR => ?_)
      exact wpO_sound hQ rest _ _ H' g' w' _ hops' hn' (hg.trans hg') S' ((hT.mono hg').put hdst hR) (by rw [hput]; exact hd) hk
    | false =>
      rw [if_neg (by rw [hw]; simp)]
      refine ⟨fun _ _ => trivial, ?_⟩
      exact wpO_sound hQ rest _ _ H g w _ hops' hn' hg S (hT.put hdst (.val _)) (by rw [hput]; exact hd) (h2 rfl)

end Go.Proofs.Ytphfdbmbdaninaa.Ab
namespace Go.Proofs.Ytphfdbmbdaninaa.Ab
open Go Go.RowKit

variable {base : Nat} {w0 w w' : World} {g : Gh} {H : Hp} {P : Program}

def rdOk (g : Gh) : Option Nat → Option Nat → Prop
  | none, none => True
  | some b, some l => g.ph b = some l
  | _, _ => False

theorem rdOk.mono {g g' : Gh} (hg : g.le g') {rd r : Option Nat} (h : rdOk g rd r) : rdOk g' rd r := by
  cases rd <;> cases r <;> first | exact h | exact hg.ph _ _ h

/-- the marks that loops over functions have left among the deferred calls -/
structure Marks (g g' : Gh) (ds : List Deferred) : Prop where
  mark : ∀ d ∈ ds, ∃ r, d = ⟨.collected r, #[]⟩ ∧ g'.mr r ∧ ¬ g.mr r
  nodup : ds.Pairwise fun d e => d.target ≠ e.target ∨ d.args ≠ e.args

theorem Marks.nil (g g' : Gh) : Marks g g' [] := ⟨by simp, .nil⟩

theorem Marks.append {g g1 g2 : Gh} {ds es : List Deferred} (h : Marks g g1 ds) (k : Marks g1 g2 es) (h1 : g.le g1) (h2 : g1.le g2) : Marks g g2 (es ++ ds) := by
  refine ⟨fun d hd => ?_, ?_⟩
  · rcases List.mem_append.1 hd with hd | hd
    · obtain ⟨r, e, a, b⟩ := k.mark d hd
      exact ⟨r, e, a, fun c => b (h1.mr r c)⟩
    · obtain ⟨r, e, a, b⟩ := h.mark d hd
      exact ⟨r, e, h2.mr r a, b⟩
  · rw [List.pairwise_append]
    refine ⟨k.nodup, h.nodup, fun d hd e he => ?_⟩
    obtain ⟨r, rfl, a, b⟩ := k.mark d hd
    obtain ⟨s, rfl, c, d'⟩ := h.mark e he
    refine .inl fun x => ?_
    cases x
    exact b c

def Awp (P : Program) (n : Nat) (rd : Option Nat) (c : Code) (T : Env) (H : Hp) (Q : Exit → Env → Hp → Prop) : Prop :=
  ∀ (base : Nat) (w0 : World) (g : Gh) (w : World) (a : Act) (r : Option Nat), Sim base w0 g H w → TRel g n T a.tmps → rdOk g rd r →
    c.wpIn (FR r) 0 P (fun e a' w' => ∃ T' H' g' ds, Q e T' H' ∧ g.le g' ∧ Sim base w0 g' H' w' ∧ TRel g' n T' a'.tmps ∧ a'.defers = ds ++ a.defers ∧ Marks g g' ds) a w

variable {n : Nat} {rd : Option Nat} {T : Env} {Q Q' : Exit → Env → Hp → Prop}

theorem Awp.mono {c : Code} (h : Awp P n rd c T H Q) (hq : ∀ e T' H', Q e T' H' → Q' e T' H') : Awp P n rd c T H Q' :=
  fun base w0 g w a r S hT hr => wpIn_mono (h base w0 g w a r S hT hr) fun _ _ _ ⟨T', H', g', ds, h1, h2⟩ => ⟨T', H', g', ds, hq _ _ _ h1, h2⟩

theorem Awp.skip (h : Q .normal T H) : Awp P n rd .skip T H Q :=
  fun _ _ g _ _ _ S hT _ => wpIn_skip ⟨T, H, g, [], h, Gh.le.refl g, S, hT, rfl, Marks.nil _ _⟩
theorem Awp.label {l : Nat} (h : Q .normal T H) : Awp P n rd (.label l) T H Q :=
  fun _ _ g _ _ _ S hT _ => wpIn_label ⟨T, H, g, [], h, Gh.le.refl g, S, hT, rfl, Marks.nil _ _⟩
theorem Awp.exit {id : Nat} (h : Q (.exit id) T H) : Awp P n rd (.exit id) T H Q :=
  fun _ _ g _ _ _ S hT _ => wpIn_exit ⟨T, H, g, [], h, Gh.le.refl g, S, hT, rfl, Marks.nil _ _⟩
theorem Awp.goto {l : Nat} (h : Q (.goto l) T H) : Awp P n rd (.goto l) T H Q :=
  fun _ _ g _ _ _ S hT _ => wpIn_goto ⟨T, H, g, [], h, Gh.le.refl g, S, hT, rfl, Marks.nil _ _⟩
theorem Awp.ret (h : Q .ret T H) : Awp P n rd .ret T H Q :=
  fun _ _ g _ _ _ S hT _ => wpIn_ret ⟨T, H, g, [], h, Gh.le.refl g, S, hT, rfl, Marks.nil _ _⟩

def thenQ (k : Env → Hp → Prop) (Q : Exit → Env → Hp → Prop) : Exit → Env → Hp → Prop
  | .normal, T, H => k T H
  | e, T, H => Q e T H

def blockQ (id : Nat) (Q : Exit → Env → Hp → Prop) : Exit → Env → Hp → Prop
  | .exit i, T, H => if i = id then Q .normal T H else Q (.exit i) T H
  | e, T, H => Q e T H

theorem Awp.seq {x y : Code} (h : Awp P n rd x T H (thenQ (fun T' H' => Awp P n rd y T' H' Q) Q)) : Awp P n rd (.seq x y) T H Q := by
  intro base w0 g w a r S hT hr
  refine wpIn_seq (wpIn_mono (h base w0 g w a r S hT hr) fun e a' w' ⟨T', H', g', ds, h1, h2, h3, h4, h5, h6⟩ => ?_)
  cases e with
  | normal =>
    refine wpIn_mono (h1 base w0 g' w' a' r h3 h4 (hr.mono h2)) fun e a'' w'' ⟨T'', H'', g'', es, k1, k2, k3, k4, k5, k6⟩ => ?_
    exact ⟨T'', H'', g'', es ++ ds, k1, h2.trans k2, k3, k4, by rw [k5, h5, List.append_assoc], h6.append k6 h2 k2⟩
  | exit id => exact ⟨T', H', g', ds, h1, h2, h3, h4, h5, h6⟩
  | goto l => exact ⟨T', H', g', ds, h1, h2, h3, h4, h5, h6⟩
  | ret => exact ⟨T', H', g', ds, h1, h2, h3, h4, h5, h6⟩
  | panic c => exact ⟨T', H', g', ds, h1, h2, h3, h4, h5, h6⟩
  | outgrown => exact ⟨T', H', g', ds, h1, h2, h3, h4, h5, h6⟩

theorem Awp.cond {c : Operand} {x y : Code} {t : Bool} (hc : evA T c = .val (.bool t)) (hx : t = true → Awp P n rd x T H Q) (hy : t = false → Awp P n rd y T H Q) : Awp P n rd (.cond c x y) T H Q := by
  intro base w0 g w a r S hT hr
  have hcv : a.eval c = .bool t := by
    have := evA_rel hT c
    rw [hc] at this
    generalize a.eval c = v at this
    cases this
    rfl
  exact wpIn_cond_split hcv (fun h => hx h base w0 g w a r S hT hr) (fun h => hy h base w0 g w a r S hT hr)

theorem Awp.block {id : Nat} {c : Code} (h : Awp P n rd c T H (blockQ id Q)) : Awp P n rd (.block id c) T H Q := by
  intro base w0 g w a r S hT hr
  refine wpIn_block (wpIn_mono (h base w0 g w a r S hT hr) fun e a' w' ⟨T', H', g', ds, h1, h2⟩ => ?_)
  cases e with
  | exit i =>
    simp only [blockQ] at h1
    simp only [Exit.inBlock]
    by_cases hi : i = id
    · rw [if_pos hi] at h1 ⊢; exact ⟨T', H', g', ds, h1, h2⟩
    · rw [if_neg hi] at h1 ⊢; exact ⟨T', H', g', ds, h1, h2⟩
  | normal => exact ⟨T', H', g', ds, h1, h2⟩
  | goto l => exact ⟨T', H', g', ds, h1, h2⟩
  | ret => exact ⟨T', H', g', ds, h1, h2⟩
  | panic c => exact ⟨T', H', g', ds, h1, h2⟩
  | outgrown => exact ⟨T', H', g', ds, h1, h2⟩

theorem Awp.region {mu : Nat → Bool} {id : Nat} {ops : Array Oper} (h : ∀ K : Env → Hp → Prop, (∀ T' H', Q .normal T' H' → K T' H') → wpO P mu n none [] ops.toList T H K) : Awp P n rd (.region id ops false) T H Q := by
  intro base w0 g w a r S hT hr
  refine wpIn_region_list ?_
  have := wpO_sound (P := P) (mu := mu) (n := n) (d := none) (ops := ops.toList) (r := r) (base := base) (w0 := w0) (ds := a.defers) (g0 := g) (K := Q .normal)
    (Q := fun e a' w' => ∃ T' H' g' ds, Q e T' H' ∧ g.le g' ∧ Sim base w0 g' H' w' ∧ TRel g' n T' a'.tmps ∧ a'.defers = ds ++ a.defers ∧ Marks g g' ds)
    (fun T H g' w a' hk hg S' hT' hd => ⟨T, H, g', [], hk, hg, S', hT', hd, Marks.nil _ _⟩) ops.toList [] T H g w a (by simp) (by simp) (Gh.le.refl g) S hT rfl (h _ fun _ _ h => h)
  exact this

theorem wpIn_loop_ind {F : Fence} {m : Nat} {c : Code} {Q : Exit → Act → World → Prop} {a : Act} {w : World} {ι : Type} (I : ι → Act → World → Prop) (μ : ι → Nat) (i0 : ι) (h₀ : I i0 a w)
    (round : ∀ i a w, I i a w → c.wpIn F m P (Exit.then (fun a' w' => ∃ j, I j a' w' ∧ μ j < μ i) Q) a w) : (Code.loop c).wpIn F m P Q a w := by
  intro b k cs hro hb hr
  have key : ∀ j i a w, μ i = j → I i a w →
      ∃ e a' w', Q e a' w' ∧ ArrivesIn (Machine.fenced P F) P (lone (b.atR a (.code c :: .inLoop c :: k)) cs w) b k cs e a' w' := by
    intro j
    induction j using Nat.strongRecOn with
    | _ j ih =>
      intro i a w hn hI
      obtain ⟨e, a₁, w₁, hq, harr⟩ := round i a w hI b (.inLoop c :: k) cs hro hb hr
      cases e with
      | normal =>
        obtain ⟨i₁, hI₁, hlt⟩ := hq
        obtain ⟨e₂, a₂, w₂, hq₂, harr₂⟩ := ih (μ i₁) (hn ▸ hlt) i₁ a₁ w₁ rfl hI₁
        exact ⟨e₂, a₂, w₂, hq₂, .of_steps (StepsIn.trans harr (.one (fenced_calm hb hr rfl) stepR_inLoop)) harr₂⟩
      | exit id => exact ⟨_, a₁, w₁, hq, .pass (x := .inLoop c) rfl (fun _ _ => .inl (by simp)) harr⟩
      | goto l => exact ⟨_, a₁, w₁, hq, .pass (x := .inLoop c) rfl (fun _ _ => .inl (by simp)) harr⟩
      | ret => exact ⟨_, a₁, w₁, hq, .pass (x := .inLoop c) rfl (fun _ _ => .inl (by simp)) harr⟩
      | panic ch => exact ⟨_, a₁, w₁, hq, .pass (x := .inLoop c) rfl (fun _ _ => .inl (by simp)) harr⟩
      | outgrown => exact ⟨_, a₁, w₁, hq, .pass (x := .inLoop c) rfl (fun _ _ => .inl (by simp)) harr⟩
  obtain ⟨e, a', w', hq, harr⟩ := key _ i0 a w rfl h₀
  exact ⟨e, a', w', hq, .of_steps (.one (fenced_calm hb hr rfl) stepR_loop) harr⟩

/-- a loop, by a relation over states of the prover's own and a measure of these -/
theorem Awp.loop {c : Code} {ι : Type} (I : ι → Env → Hp → Prop) (μ : ι → Nat) (i0 : ι) (h0 : I i0 T H)
    (round : ∀ i T H, I i T H → Awp P n rd c T H (thenQ (fun T' H' => ∃ j, I j T' H' ∧ μ j < μ i) Q)) : Awp P n rd (.loop c) T H Q := by
  intro base w0 g w a r S hT hr
  refine wpIn_loop_ind (ι := ι) (fun i a' w' => ∃ T' H' g' ds, I i T' H' ∧ g.le g' ∧ Sim base w0 g' H' w' ∧ TRel g' n T' a'.tmps ∧ a'.defers = ds ++ a.defers ∧ Marks g g' ds) μ i0
    ⟨T, H, g, [], h0, Gh.le.refl g, S, hT, rfl, Marks.nil _ _⟩ ?_
  rintro i a1 w1 ⟨T1, H1, g1, ds, h1, h2, h3, h4, h5, h6⟩
  refine wpIn_mono (round i T1 H1 h1 base w0 g1 w1 a1 r h3 h4 (hr.mono h2)) fun e a2 w2 ⟨T2, H2, g2, es, k1, k2, k3, k4, k5, k6⟩ => ?_
  have hall : a2.defers = (es ++ ds) ++ a.defers := by rw [k5, h5, List.append_assoc]
  have hm := h6.append k6 h2 k2
  cases e with
  | normal =>
    obtain ⟨j, hj, hlt⟩ := k1
    exact ⟨j, ⟨T2, H2, g2, es ++ ds, hj, h2.trans k2, k3, k4, hall, hm⟩, hlt⟩
  | exit id => exact ⟨T2, H2, g2, es ++ ds, k1, h2.trans k2, k3, k4, hall, hm⟩
  | goto l => exact ⟨T2, H2, g2, es ++ ds, k1, h2.trans k2, k3, k4, hall, hm⟩
  | ret => exact ⟨T2, H2, g2, es ++ ds, k1, h2.trans k2, k3, k4, hall, hm⟩
  | panic c => exact ⟨T2, H2, g2, es ++ ds, k1, h2.trans k2, k3, k4, hall, hm⟩
  | outgrown => exact ⟨T2, H2, g2, es ++ ds, k1, h2.trans k2, k3, k4, hall, hm⟩

/-! ### what a function hands back -/

/-- what abstract references below n a value has -/
inductive Bel (n : Nat) : AV → Prop
  | val (v : Value) : Bel n (.val v)
  | rptr {cs : List AV} {off : Nat} (h : ∀ c ∈ cs, Bel n c) : Bel n (.rptr cs off)
  | mptr {b i off : Nat} (h : b < n) : Bel n (.mptr b i off)
  | rsl {es : List (List AV)} {ex : Bool} (h : ∀ e ∈ es, ∀ c ∈ e, Bel n c) : Bel n (.rsl es ex)
  | msl {b off len : Nat} (h : b < n) : Bel n (.msl b off len)
  | fn {f : Fn} {cap : List AV} (hy : ∀ l, f ≠ .yield l) (h : ∀ c ∈ cap, Bel n c) : Bel n (.fn f cap)
  | mth {f : FuncId} {pre : List AV} (h : ∀ c ∈ pre, Bel n c) : Bel n (.mth f pre)
  | yld {b : Nat} (h : b < n) : Bel n (.fn (.yield b) [])
  | mp {b : Nat} (h : b < n) : Bel n (.mp b)
  | agg {cs : List AV} (h : ∀ c ∈ cs, Bel n c) : Bel n (.agg cs)
  | tup {cs : List AV} (h : ∀ c ∈ cs, Bel n c) : Bel n (.tup cs)

theorem R.bel {g : Gh} {m : Nat} (hd : ∀ b x, g.ph b = some x → b < m) {a : AV} {v : Value} (h : R g a v) : Bel m a := by
  have arr : ∀ (cs : List AV) (vs : Array Value), cs.length = vs.size → (∀ (i : Nat) (c : AV) (v : Value), cs[i]? = some c → vs[i]? = some v → Bel m c) → ∀ c ∈ cs, Bel m c := by
    intro cs vs hl ih c hc
    obtain ⟨i, hi⟩ := List.getElem?_of_mem hc
    have hlt : i < vs.size := by rw [← hl]; exact (List.getElem?_eq_some_iff.1 hi).1
    exact ih i c vs[i] hi (Array.getElem?_eq_getElem hlt)
  induction h with
  | val v => exact .val v
  | rptr vs hf _ ih => exact .rptr fun c hc => by obtain ⟨i, hi⟩ := List.getElem?_of_mem hc; exact ih i c hi
  | mptr h => exact .mptr (hd _ _ h)
  | rnil => exact .rsl fun e he => by cases he
  | rsl vs hn hl hc hm hk hf _ ih =>
    exact .rsl fun e he c hc => by
      obtain ⟨i, hi⟩ := List.getElem?_of_mem he
      obtain ⟨j, hj⟩ := List.getElem?_of_mem hc
      exact ih i e j c hi hj
  | msl h => exact .msl (hd _ _ h)
  | fn hy hl _ ih => exact .fn hy (arr _ _ hl ih)
  | mth hl _ ih => exact .mth (arr _ _ hl ih)
  | yld h => exact .yld (hd _ _ h)
  | mp h => exact .mp (hd _ _ h)
  | agg hl _ ih => exact .agg (arr _ _ hl ih)
  | tup hl _ ih => exact .tup (arr _ _ hl ih)

/-- own blocks from number m on are forgotten -/
def Gh.cut (g : Gh) (m : Nat) : Gh := { g with ph := fun b => if b < m then g.ph b else none }

theorem Bel.cut {m : Nat} {a : AV} (hb : Bel m a) : ∀ {g : Gh} {v : Value}, R g a v → R (g.cut m) a v := by
  have ph : ∀ (g : Gh) (b x : Nat), b < m → g.ph b = some x → (g.cut m).ph b = some x := fun g b x hb h => by
    show (if b < m then g.ph b else none) = some x
    rw [if_pos hb]; exact h
  induction hb with
  | val v => intro g v h; cases h; exact .val _
  | rptr _ ih => intro g v h; cases h with | rptr vs hf hr => exact .rptr vs hf fun i c hc => ih c (List.mem_of_getElem? hc) (hr i c hc)
  | mptr hb => intro g v h; cases h with | mptr h => exact R.mptr (g := g.cut m) (ph _ _ _ hb h)
  | rsl _ ih => intro g v h; cases h with | rnil a => exact .rnil a | rsl vs hn hl hc hm hk hf hr => exact .rsl vs hn hl hc hm hk hf fun i e j c he hc => ih e (List.mem_of_getElem? he) c (List.mem_of_getElem? hc) (hr i e j c he hc)
  | msl hb => intro g v h; cases h with | msl h hl hc hm => exact R.msl (g := g.cut m) (ph _ _ _ hb h) hl hc hm
  | fn hy _ ih => intro g v h; cases h with
    | fn hy hl hr => exact .fn hy hl fun i c v hc hv => ih c (List.mem_of_getElem? hc) (hr i c v hc hv)
    | yld h => exact absurd rfl (hy _)
  | mth _ ih => intro g v h; cases h with
    | mth hl hr => exact .mth hl fun i c v hc hv => ih c (List.mem_of_getElem? hc) (hr i c v hc hv)
  | yld hb => intro g v h; cases h with
    | fn hy => exact absurd rfl (hy _)
    | yld h => exact .yld (ph _ _ _ hb h)
  | mp hb => intro g v h; cases h with | mp h => exact .mp (ph _ _ _ hb h)
  | agg _ ih => intro g v h; cases h with | agg hl hr => exact .agg hl fun i c v hc hv => ih c (List.mem_of_getElem? hc) (hr i c v hc hv)
  | tup _ ih => intro g v h; cases h with | tup hl hr => exact .tup hl fun i c v hc hv => ih c (List.mem_of_getElem? hc) (hr i c v hc hv)

inductive BelO (m : Nat) : AObj → Prop
  | cells {es : List (List AV)} {t : TypeId} (h : ∀ e ∈ es, ∀ c ∈ e, Bel m c) : BelO m (.cells es t)
  | amap {es : List (AV × AV)} (h : ∀ e ∈ es, Bel m e.1 ∧ Bel m e.2) : BelO m (.amap es)
  | loop {st : LoopState} {pend : Option Code} {f : FuncId} {T : Nat → AV} {n : Nat} {params : Array Tmp} {assign body : Code} {defers : Nat} (h : ∀ t, Bel m (T t)) :
      BelO m (.loop st pend f T n params assign body defers)
  | dead : BelO m .dead

theorem ORel.bel {g : Gh} {m k cp : Nat} (hd : ∀ b x, g.ph b = some x → b < m) {ob : AObj} {o : Obj} (h : ORel g k cp ob o) : BelO m ob := by
  cases h with
  | cells hs hl hk hr =>
    refine .cells fun e he c hc => ?_
    obtain ⟨i, hi⟩ := List.getElem?_of_mem he
    obtain ⟨j, hj⟩ := List.getElem?_of_mem hc
    obtain ⟨v, _, h⟩ := hr i e j c hi hj
    exact h.bel hd
  | loop h => exact .loop fun t => (h.slot t).bel hd
  | amap hl hr hst =>
    refine .amap fun e he => ?_
    obtain ⟨i, hi⟩ := List.getElem?_of_mem he
    rename_i ms clock
    have hlt : i < ms.size := by rw [← hl]; exact (List.getElem?_eq_some_iff.1 hi).1
    have := hr i e ms[i] hi (Array.getElem?_eq_getElem hlt)
    exact ⟨this.1.bel hd, this.2.bel hd⟩
  | dead => exact .dead

theorem BelO.cut {m k cp : Nat} {ob : AObj} {o : Obj} (hb : BelO m ob) {g : Gh} (h : ORel g k cp ob o) : ORel (g.cut m) k cp ob o := by
  cases h with
  | cells hs hl hk hr =>
    cases hb with
    | cells hb => exact .cells hs hl hk fun i e j c he hc => let ⟨v, h1, h2⟩ := hr i e j c he hc; ⟨v, h1, (hb e (List.mem_of_getElem? he) c (List.mem_of_getElem? hc)).cut h2⟩
  | loop h =>
    cases hb with
    | loop hb => exact .loop ⟨h.size, fun t => (hb t).cut (h.slot t)⟩
  | amap hl hr hs =>
    cases hb with
    | amap hb => exact .amap hl (fun i e m he hm => ⟨(hb e (List.mem_of_getElem? he)).1.cut (hr i e m he hm).1, (hb e (List.mem_of_getElem? he)).2.cut (hr i e m he hm).2⟩) hs
  | dead => exact .dead _

/-- the last blocks of a heap may be forgotten, if nothing of the others leads to them -/
theorem Sim.cut {H1 X : Hp} (S : Sim base w0 g (H1 ++ X) w) (hb : ∀ (b : Nat) (ob : AObj), H1[b]? = some ob → ob ≠ .dead → BelO H1.length ob) : Sim base w0 (g.cut H1.length) H1 w := by
  have ph : ∀ b x, (g.cut H1.length).ph b = some x → b < H1.length ∧ g.ph b = some x := by
    intro b x h
    change (if b < H1.length then g.ph b else none) = some x at h
    split at h
    · exact ⟨by assumption, h⟩
    · cases h
  have old : ∀ (b : Nat) (ob : AObj), H1[b]? = some ob → (H1 ++ X)[b]? = some ob := by
    intro b ob h
    rw [List.getElem?_append_left (List.getElem?_eq_some_iff.1 h).1]; exact h
  exact
  { below := S.below
    low := S.low
    fz := S.fz
    dom := fun b x h => (ph b x h).1
    pos := fun b x h => S.pos b x (ph b x h).2
    sep := fun b x ob h hn hx => S.sep b x ob (old b ob h) hn (ph b x hx).2
    inj := fun b c x ob oc h hn h' hn' hx hx' => S.inj b c x ob oc (old b ob h) hn (old c oc h') hn' (ph b x hx).2 (ph c x hx').2
    obj := fun b ob h hn => by
      obtain ⟨x, o, h1, h2, h3⟩ := S.obj b ob (old b ob h) hn
      refine ⟨x, o, ?_, h2, (hb b ob h hn).cut h3⟩
      show (if b < H1.length then g.ph b else none) = some x
      rw [if_pos (List.getElem?_eq_some_iff.1 h).1]; exact h1
    marks := S.marks }

/-- a value and a heap may be told otherwise -/
def Vs (H0 : Hp) (a : AV) (H : Hp) (a' : AV) (H' : Hp) : Prop :=
  ∀ (base : Nat) (w0 : World) (g0 g : Gh) (w : World) (x : Value), (∀ b x, g0.ph b = some x → b < H0.length) → (∀ (b : Nat) (ob : AObj), H0[b]? = some ob → ob ≠ .dead → BelO H0.length ob) → g0.le g → Sim base w0 g H w → R g a x →
    ∃ g', g0.le g' ∧ Sim base w0 g' H' w ∧ R g' a' x

theorem Vs.refl (H0 : Hp) (a : AV) (H : Hp) : Vs H0 a H a H := fun _ _ _ g _ _ _ _ hg S hR => ⟨g, hg, S, hR⟩

theorem Vs.trans {H0 H1 H2 H3 : Hp} {a b c : AV} (h : Vs H0 a H1 b H2) (k : Vs H0 b H2 c H3) : Vs H0 a H1 c H3 := by
  intro base w0 g0 g w x hd hb hg S hR
  obtain ⟨g1, h1, h2, h3⟩ := h base w0 g0 g w x hd hb hg S hR
  exact k base w0 g0 g1 w x hd hb h1 h2 h3

/-- what the call has made is forgotten, if the result does not lead to it and what was there is as it was -/
theorem Vs.drop {H0 X : Hp} {a : AV} (ha : Bel H0.length a) : Vs H0 a (H0 ++ X) a H0 := by
  intro base w0 g0 g w x hd hb hg S hR
  refine ⟨g.cut H0.length, ⟨hg.fz, fun b y h => ?_, hg.ks, hg.cp, hg.mr⟩, S.cut hb, ha.cut hR⟩
  show (if b < H0.length then g.ph b else none) = some y
  rw [if_pos (hd b y h)]; exact hg.ph b y h

theorem Vs.dropTo {H0 H1 X : Hp} {a : AV} (hl : H0.length ≤ H1.length) (hb1 : (∀ (b : Nat) (ob : AObj), H0[b]? = some ob → ob ≠ .dead → BelO H0.length ob) → ∀ (b : Nat) (ob : AObj), H1[b]? = some ob → ob ≠ .dead → BelO H1.length ob)
    (ha : Bel H1.length a) : Vs H0 a (H1 ++ X) a H1 := by
  intro base w0 g0 g w x hd hb hg S hR
  refine ⟨g.cut H1.length, ⟨hg.fz, fun b y h => ?_, hg.ks, hg.cp, hg.mr⟩, S.cut (hb1 hb), ha.cut hR⟩
  show (if b < H1.length then g.ph b else none) = some y
  rw [if_pos (Nat.lt_of_lt_of_le (hd b y h) hl)]; exact hg.ph b y h

end Go.Proofs.Ytphfdbmbdaninaa.Ab
namespace Go.Proofs.Ytphfdbmbdaninaa.Ab
open Go Go.RowKit

variable {base : Nat} {w0 w w' : World} {g : Gh} {H : Hp} {P : Program}

/-! ### which operations do not look at the heap -/

def isP (mu : Nat → Bool) (o : Oper) : Bool :=
  match o.op with
  | .move _ | .assign _ | .pick .. | .build .. | .nilCheck _ | .binOp .. | .unOp .. | .convert .. | .makeFunc .. | .slice .. | .fieldAddr .. | .field .. | .index .. | .extract .. => true
  | .alloc _ | .box .. | .buildSlice .. => !isMu mu o.dst
  | .call { callee := .builtin .max, .. } => true
  | .call { callee := .builtin .min, .. } => true
  | _ => false

theorem evA_congr {T T' : Env} {x : Operand} (h : ∀ t, x = .tmp t → T t = T' t) : evA T x = evA T' x := by
  cases x with
  | tmp t => exact h t rfl
  | _ => rfl

theorem map_congr_op {T T' : Env} {xs : Array Operand} (h : ∀ x ∈ xs, evA T x = evA T' x) : xs.toList.map (evA T) = xs.toList.map (evA T') :=
  List.map_congr_left fun x hx => h x (by simpa using hx)

theorem parts_congr {T T' : Env} {ps : Array (Nat × Operand)} (h : ∀ x ∈ ps.toList.map (·.2), evA T x = evA T' x) : partsA (evA T) ps = partsA (evA T') ps := by
  unfold partsA
  refine List.map_congr_left fun p hp => ?_
  rw [h p.2 (List.mem_map.2 ⟨p, hp, rfl⟩)]

theorem stepA_congr {mu : Nat → Bool} {o : Oper} {T T' : Env} (h : ∀ x ∈ o.op.operands, evA T x = evA T' x) : stepA P mu o T H = stepA P mu o T' H := by
  obtain ⟨dst, op, type, pos, after, guard⟩ := o
  cases op with
  | build t ps => simp only [stepA]; rw [parts_congr fun x hx => h x (by simpa [Op.operands] using hx)]
  | buildSlice t n ps => simp only [stepA]; rw [parts_congr fun x hx => h x (by simpa [Op.operands] using hx)]
  | makeFunc f first captured =>
    simp only [stepA]
    rw [map_congr_op (xs := captured) fun x hx => h x (by simp [Op.operands, hx]), map_congr_op (xs := first) fun x hx => h x (by simp [Op.operands, hx])]
  | slice t x lo hi mx =>
    have e0 := h x (by simp [Op.operands])
    have e1 : lo.map (evA T) = lo.map (evA T') := by cases lo with
      | none => rfl
      | some y => exact congrArg some (h y (by simp [Op.operands]))
    have e2 : hi.map (evA T) = hi.map (evA T') := by cases hi with
      | none => rfl
      | some y => exact congrArg some (h y (by simp [Op.operands]))
    have e3 : mx.map (evA T) = mx.map (evA T') := by cases mx with
      | none => rfl
      | some y => exact congrArg some (h y (by simp [Op.operands]))
    simp only [stepA, e0, e1, e2, e3]
  | call c =>
    obtain ⟨callee, args, aT⟩ := c
    cases callee with
    | builtin b => simp only [stepA]; rw [map_congr_op (xs := args) fun x hx => h x (by simp [Op.operands, Call.operands, hx])]
    | _ => rfl
  | pick c a b => have e1 := h c (by simp [Op.operands]); have e2 := h a (by simp [Op.operands]); have e3 := h b (by simp [Op.operands]); simp only [stepA, e1, e2, e3]
  | store t a x => have e1 := h a (by simp [Op.operands]); have e2 := h x (by simp [Op.operands]); simp only [stepA, e1, e2]
  | binOp op t x y t' => have e1 := h x (by simp [Op.operands]); have e2 := h y (by simp [Op.operands]); simp only [stepA, e1, e2]
  | makeSlice t l c => have e1 := h l (by simp [Op.operands]); have e2 := h c (by simp [Op.operands]); simp only [stepA, e1, e2]
  | indexAddr t x i => have e1 := h x (by simp [Op.operands]); have e2 := h i (by simp [Op.operands]); simp only [stepA, e1, e2]
  | lookup t x i ok => have e1 := h x (by simp [Op.operands]); have e2 := h i (by simp [Op.operands]); simp only [stepA, e1, e2]
  | mapUpdate t m k v => have e1 := h m (by simp [Op.operands]); have e2 := h k (by simp [Op.operands]); have e3 := h v (by simp [Op.operands]); simp only [stepA, e1, e2, e3]
  | makeMap t r => cases r <;> rfl
  | index t x i => have e1 := h x (by simp [Op.operands]); have e2 := h i (by simp [Op.operands]); simp only [stepA, e1, e2]
  | move x => have e1 := h x (by simp [Op.operands]); simp only [stepA, e1]
  | assign x => have e1 := h x (by simp [Op.operands]); simp only [stepA, e1]
  | box e x => have e1 := h x (by simp [Op.operands]); simp only [stepA, e1]
  | load t x => have e1 := h x (by simp [Op.operands]); simp only [stepA, e1]
  | nilCheck x => have e1 := h x (by simp [Op.operands]); simp only [stepA, e1]
  | unOp op t x => have e1 := h x (by simp [Op.operands]); simp only [stepA, e1]
  | convert s d x => have e1 := h x (by simp [Op.operands]); simp only [stepA, e1]
  | fieldAddr s x f => have e1 := h x (by simp [Op.operands]); simp only [stepA, e1]
  | field t x f => have e1 := h x (by simp [Op.operands]); simp only [stepA, e1]
  | extract t ix => have e1 := h t (by simp [Op.operands]); simp only [stepA, e1]
  | _ => rfl

theorem stepA_P {mu : Nat → Bool} {o : Oper} {T : Env} {v : AV} {H' : Hp} (hp : isP mu o = true) (h : stepA P mu o T H = some (v, H')) (H2 : Hp) : H' = H ∧ stepA P mu o T H2 = some (v, H2) := by
  have mp : ∀ (x : Option AV), x.map (·, H) = some (v, H') → H' = H ∧ x.map (·, H2) = some (v, H2) := by
    intro x hx
    cases x with
    | none => cases hx
    | some y => cases hx; exact ⟨rfl, rfl⟩
  obtain ⟨dst, op, type, pos, after, guard⟩ := o
  cases op with
  | move x => simp only [stepA, Option.some.injEq, Prod.mk.injEq] at h ⊢; exact ⟨h.2.symm, h.1, trivial⟩
  | assign x => simp only [stepA, Option.some.injEq, Prod.mk.injEq] at h ⊢; exact ⟨h.2.symm, h.1, trivial⟩
  | pick c a b =>
    simp only [stepA] at h ⊢
    split at h
    · simp only [Option.some.injEq, Prod.mk.injEq] at h ⊢; exact ⟨h.2.symm, h.1, trivial⟩
    · cases h
  | build t ps => simp only [stepA] at h ⊢; exact mp _ h
  | nilCheck x =>
    simp only [stepA] at h ⊢
    split at h <;> first
      | (cases h; done)
      | (simp only [Option.some.injEq, Prod.mk.injEq] at h ⊢; exact ⟨h.2.symm, h.1, trivial⟩)
  | binOp op t x y t' => simp only [stepA] at h ⊢; exact mp _ h
  | unOp op t x => simp only [stepA] at h ⊢; exact mp _ h
  | convert s d x => simp only [stepA] at h ⊢; exact mp _ h
  | makeFunc f first captured =>
    simp only [stepA] at h ⊢
    split at h
    · split at h
      · rename_i h0; rw [if_pos h0]; simp only [Option.some.injEq, Prod.mk.injEq] at h ⊢; exact ⟨h.2.symm, h.1, trivial⟩
      · split at h
        · rename_i h0 h1; rw [if_neg h0, if_pos h1]; simp only [Option.some.injEq, Prod.mk.injEq] at h ⊢; exact ⟨h.2.symm, h.1, trivial⟩
        · cases h
    · cases h
  | slice t x lo hi mx => simp only [stepA] at h ⊢; exact mp _ h
  | fieldAddr s x f =>
    simp only [stepA] at h ⊢
    split at h
    · split at h <;> first
        | (cases h; done)
        | (simp only [Option.some.injEq, Prod.mk.injEq] at h ⊢; exact ⟨h.2.symm, h.1, trivial⟩)
    · cases h
  | field t x f =>
    simp only [stepA] at h ⊢
    split at h <;> first
      | (cases h; done)
      | exact mp _ h
  | index t x i =>
    simp only [stepA] at h ⊢
    split at h
    · rename_i u v' _ _
      cases hq : pureRun P (Instr.index t u v') with
      | none => rw [hq] at h; cases h
      | some z => rw [hq] at h; cases h; exact ⟨rfl, rfl⟩
    · split at h
      · split at h
        · rename_i hc; rw [if_pos hc]; exact mp _ h
        · cases h
      · cases h
    · cases h
  | extract t ix =>
    simp only [stepA] at h ⊢
    split at h
    · exact mp _ h
    · rename_i vs _
      cases hq : vs[ix]? with
      | none => rw [hq] at h; cases h
      | some z => rw [hq] at h; cases h; exact ⟨rfl, rfl⟩
    · cases h
  | alloc e =>
    simp only [isP, Bool.not_eq_true'] at hp
    simp only [stepA, hp, boxA] at h ⊢
    split at h
    · simp only [Bool.false_eq_true, if_false, Option.some.injEq, Prod.mk.injEq] at h ⊢; exact ⟨h.2.symm, h.1, trivial⟩
    · cases h
  | box e x =>
    simp only [isP, Bool.not_eq_true'] at hp
    simp only [stepA, hp, boxA] at h ⊢
    simp only [Bool.false_eq_true, if_false, Option.some.injEq, Prod.mk.injEq] at h ⊢; exact ⟨h.2.symm, h.1, trivial⟩
  | buildSlice t n ps =>
    simp only [isP, Bool.not_eq_true'] at hp
    simp only [stepA, hp] at h ⊢
    split at h
    · simp only [Bool.false_eq_true, if_false, Option.some.injEq, Prod.mk.injEq] at h ⊢; exact ⟨h.2.symm, h.1, trivial⟩
    · cases h
  | call c =>
    obtain ⟨callee, args, aT⟩ := c
    cases callee with
    | builtin b =>
      cases b <;> first
        | (simp [isP] at hp; done)
        | (simp only [stepA, builtinA] at h ⊢; exact mp _ h)
    | _ => simp [isP] at hp
  | _ => simp [isP] at hp

end Go.Proofs.Ytphfdbmbdaninaa.Ab
