/- stepA is what the machine does. -/
import Derived.Test.YtphfdbmbdaninaaA8
namespace Go.Proofs.Ytphfdbmbdaninaa.Ab
open Go Go.RowKit

variable {base : Nat} {w0 w w' : World} {g : Gh} {H : Hp} {P : Program}

def RunsTo (P : Program) (o : Oper) (a : Act) (w : World) (v : Value) (w' : World) : Prop :=
  (execOp a.eval o).run P w = .ok (.value v) w' ∨ ((execOp a.eval o).run P w = .ok .skip w' ∧ v = undef)

theorem box_run (S : Sim base w0 g H w) {m : Bool} {elem : TypeId} {cs : List AV} {vs : Array Value} {r : AV} {H' : Hp} (h : boxA m elem cs H = (r, H')) (hc : RCells g cs vs) :
    ∃ g', g.le g' ∧ Sim base w0 g' H' (w.alloc (.cells vs elem)) ∧ R g' r (.pointer (some ⟨w.heap.size, 0, none⟩)) := by
  unfold boxA at h
  split at h
  · cases h; exact box_own S hc elem
  · cases h; exact box_fz S hc elem

theorem parts_rel {T : Env} {a : Act} (ps : Array (Nat × Operand)) (hr : ∀ x ∈ ps.toList.map (·.2), R g (evA T x) (a.eval x)) :
    (partsA (evA T) ps).length = (ps.map fun (i, x) => (i, a.eval x)).size ∧
    ∀ (n : Nat) (p : Nat × AV) (q : Nat × Value), (partsA (evA T) ps)[n]? = some p → (ps.map fun (i, x) => (i, a.eval x))[n]? = some q → p.1 = q.1 ∧ R g p.2 q.2 := by
  refine ⟨by simp [partsA], fun n p q hp hq => ?_⟩
  simp only [partsA, List.getElem?_map, Array.getElem?_toList, Array.getElem?_map, Option.map_eq_some_iff] at hp hq
  obtain ⟨x, hx, rfl⟩ := hp
  obtain ⟨y, hy, rfl⟩ := hq
  rw [hx] at hy
  cases hy
  exact ⟨rfl, hr x.2 (List.mem_map.2 ⟨x, by simpa using Array.mem_of_getElem? hx, rfl⟩)⟩

theorem list_rel {T : Env} {a : Act} (xs : Array Operand) (hr : ∀ x ∈ xs, R g (evA T x) (a.eval x)) :
    (xs.toList.map (evA T)).length = (xs.map a.eval).size ∧ ∀ (i : Nat) (c : AV) (v : Value), (xs.toList.map (evA T))[i]? = some c → (xs.map a.eval)[i]? = some v → R g c v := by
  refine ⟨by simp, fun i c v hc hv => ?_⟩
  simp only [List.getElem?_map, Array.getElem?_toList, Array.getElem?_map, Option.map_eq_some_iff] at hc hv
  obtain ⟨x, hx, rfl⟩ := hc
  obtain ⟨y, hy, rfl⟩ := hv
  rw [hx] at hy
  cases hy
  exact hr x (Array.mem_of_getElem? hx)

theorem pure_map {o : Option AV} {r : AV} {H H' : Hp} (h : o.map (·, H) = some (r, H')) : o = some r ∧ H' = H := by
  cases o with
  | none => cases h
  | some x => cases h; exact ⟨rfl, rfl⟩

theorem part_of {cs : List AV} {vs : Array Value} {ty : TypeId} {off : Nat} {r : AV} (hc : RCells g cs vs) (hl : loadA P ty cs off = some r) : ∃ v, (part ty vs off).run P w = .ok v w ∧ R g r v := by
  unfold loadA at hl
  have hagg : ∀ n, off + n ≤ cs.length → R g (.agg ((cs.drop off).take n)) (.agg (vs.extract off (off + n))) := by
    intro n hn
    have := hc.size
    refine .agg (by simp; omega) (fun i c v hc' hv' => ?_)
    rw [List.getElem?_take] at hc'
    split at hc'
    · rename_i hi
      rw [List.getElem?_drop] at hc'
      rw [Array.getElem?_extract] at hv'
      split at hv'
      · exact hc.cell _ _ _ hc' hv'
      · cases hv'
    · cases hc'
  split at hl
  · rename_i fs' i hu' hi
    split at hl
    · cases hl
      exact ⟨_, by simp [part, run_isAgg _ _ hu', run_sizeOf _ _ hi], hagg _ (by assumption)⟩
    · cases hl
  · rename_i n' e' i hu' hi
    split at hl
    · cases hl
      exact ⟨_, by simp [part, run_isAgg _ _ hu', run_sizeOf _ _ hi], hagg _ (by assumption)⟩
    · cases hl
  · rename_i d i hs ha hu' hi
    obtain ⟨v, h1, h2⟩ := hc.get hl
    have hb : (isAgg ty).run P w = .ok false w := by
      rw [run_isAgg _ _ hu']
      cases d <;> first | rfl | exact absurd rfl (hs _) | exact absurd rfl (ha _ _)
    exact ⟨v, by simp [part, hb, h1], h2⟩
  · cases hl


theorem stepA_sound (S : Sim base w0 g H w) {mu : Nat → Bool} {o : Oper} {T : Env} {a : Act} {r : AV} {H' : Hp} (h : stepA P mu o T H = some (r, H')) (hr : ∀ x ∈ o.op.operands, R g (evA T x) (a.eval x)) :
    ∃ v g' w', RunsTo P o a w v w' ∧ g.le g' ∧ Sim base w0 g' H' w' ∧ R g' r v := by
  obtain ⟨dst, op, type, pos, after, guard⟩ := o
  cases op with
  | move x =>
    simp only [stepA, Option.some.injEq, Prod.mk.injEq] at h
    obtain ⟨rfl, rfl⟩ := h
    exact ⟨_, g, w, .inl rfl, Gh.le.refl g, S, hr x (by simp [Op.operands])⟩
  | assign x =>
    simp only [stepA, Option.some.injEq, Prod.mk.injEq] at h
    obtain ⟨rfl, rfl⟩ := h
    exact ⟨_, g, w, .inl rfl, Gh.le.refl g, S, hr x (by simp [Op.operands])⟩
  | pick c x y =>
    have hc := hr c (by simp [Op.operands])
    have hx := hr x (by simp [Op.operands])
    have hy := hr y (by simp [Op.operands])
    simp only [stepA] at h
    split at h
    · rename_i t e
      rw [e] at hc
      generalize hcv : a.eval c = cv at hc
      cases hc
      simp only [Option.some.injEq, Prod.mk.injEq] at h
      obtain ⟨rfl, rfl⟩ := h
      refine ⟨if t then a.eval x else a.eval y, g, w, .inl ?_, Gh.le.refl g, S, ?_⟩
      · simp [execOp, hcv, asBool]
      · cases t <;> assumption
    · cases h
  | alloc elem =>
    simp only [stepA] at h
    split at h
    · rename_i z' hz'
      simp only [Option.some.injEq] at h
      unfold zeroA at hz'
      split at hz'
      · rename_i i hi
        split at hz'
        · rename_i z hz
          cases hz'
          obtain ⟨g', h1, h2, h3⟩ := box_run S h (RCells.vals z.cells)
          exact ⟨_, g', _, .inl (by simp [execOp, Instr.alloc, zeroValue, typeInfo, hi, hz, newVar, newRow]), h1, h2, h3⟩
        · cases hz'
      · cases hz'
    · cases h
  | box elem x =>
    simp only [stepA, Option.some.injEq] at h
    obtain ⟨g', h1, h2, h3⟩ := box_run S h (hr x (by simp [Op.operands])).cells
    exact ⟨_, g', _, .inl (by simp [execOp, Instr.box, newVar, newRow]), h1, h2, h3⟩
  | build t ps =>
    simp only [stepA] at h
    obtain ⟨hq, hH⟩ := pure_map h; subst hH; clear h; have h := hq; clear hq
    obtain ⟨hl, hp⟩ := parts_rel (g := g) (T := T) (a := a) ps (fun x hx => hr x (by simpa [Op.operands] using hx))
    obtain ⟨v, h1, h2⟩ := build_run (w := w) h hl hp
    exact ⟨v, g, w, .inl (by show (do pure (.value (← Instr.build t (ps.map fun (i, x) => (i, a.eval x)))) : Sem Next).run P w = _; rw [Sem.run_bind, h1]; rfl), Gh.le.refl g, S, h2⟩
  | buildSlice t len ps =>
    obtain ⟨hl, hp⟩ := parts_rel (g := g) (T := T) (a := a) ps (fun x hx => hr x (by simpa [Op.operands] using hx))
    simp only [stepA] at h
    split at h
    · rename_i es e hlit
      obtain ⟨k, us, h1, h2, h3, h4⟩ := lit_run (w := w) hlit hl hp
      split at h
      · cases h
        obtain ⟨g', k1, k2, k3⟩ := own_new S (w' := w.alloc (.cells us.toArray e)) (cur := us.toArray) (t := e) (cp := len) h2 (by simp [h2.size, h3]) (by omega) (by rw [← h2.size]; simp) h4 (World.grownBy_alloc w _ none) (heap_alloc_new w _)
        subst h3
        exact ⟨_, g', _, .inl (by show (do pure (.value (← Instr.buildSlice t es.length (ps.map fun (i, x) => (i, a.eval x)))) : Sem Next).run P w = _; rw [Sem.run_bind, h1]; rfl), k1, k2, k3⟩
      · cases h
        obtain ⟨g', k1, k2, k3⟩ := lit_fz S h2 (by omega) e
        subst h3
        exact ⟨_, g', _, .inl (by show (do pure (.value (← Instr.buildSlice t es.length (ps.map fun (i, x) => (i, a.eval x)))) : Sem Next).run P w = _; rw [Sem.run_bind, h1]; rfl), k1, k2, k3⟩
    · cases h
  | load t x =>
    have hx := hr x (by simp [Op.operands])
    simp only [stepA] at h
    split at h
    · rename_i cs off e
      rw [e] at hx
      obtain ⟨hq, hH⟩ := pure_map h; subst hH; clear h; have h := hq; clear hq
      obtain ⟨v, h1, h2⟩ := loadA_run (w := w) (g := g) h (a.eval x) (by generalize a.eval x = u at hx; cases hx; exact ⟨_, rfl⟩) (fun j c hc => R.rptr_cell S hx hc)
      exact ⟨v, g, w, .inl (by simp only [execOp, Sem.run_bind, h1, Result.andThen_ok, Sem.run_pure]), Gh.le.refl g, S, h2⟩
    · rename_i b i off e
      rw [e] at hx
      split at h
      · rename_i es t' hb
        split at h
        · rename_i e' he
          obtain ⟨hq, hH⟩ := pure_map h; subst hH; clear h; have h := hq; clear hq
          obtain ⟨v, h1, h2⟩ := loadA_run (w := w) (g := g) h (a.eval x) (by generalize a.eval x = u at hx; cases hx; exact ⟨_, rfl⟩) (fun j c hc => R.mptr_cell S hx hb he hc)
          exact ⟨v, g, w, .inl (by simp only [execOp, Sem.run_bind, h1, Result.andThen_ok, Sem.run_pure]), Gh.le.refl g, S, h2⟩
        · cases h
      · cases h
    · cases h
  | store t x y =>
    have hx := hr x (by simp [Op.operands])
    have hy := hr y (by simp [Op.operands])
    simp only [stepA] at h
    split at h
    · rename_i b i off e
      rw [e] at hx
      split at h
      · rename_i es ty k hb hk
        obtain ⟨inf, hi, rfl⟩ := Option.map_eq_some_iff.1 hk
        split at h
        · rename_i e' he
          split at h
          · rename_i hif
            cases h
            obtain ⟨w', h1, h2⟩ := store_own S hx hb he hy hi hif.1 hif.2.1 hif.2.2
            exact ⟨undef, g, w', .inr ⟨by simp only [execOp, Sem.run_bind, h1, Result.andThen_ok, Sem.run_pure], rfl⟩, Gh.le.refl g, h2, .val _⟩
          · cases h
        · cases h
      · cases h
    · cases h
  | nilCheck x =>
    have hx := hr x (by simp [Op.operands])
    simp only [stepA] at h
    split at h
    all_goals first
      | (cases h; done)
      | (rename_i e
         rw [e] at hx
         cases h
         refine ⟨a.eval x, g, w, .inl ?_, Gh.le.refl g, S, hx⟩
         generalize hu : a.eval x = u at hx
         cases hx <;> simp [execOp, hu])
  | binOp op t x y t' =>
    simp only [stepA] at h
    obtain ⟨hq, hH⟩ := pure_map h; subst hH; clear h; have h := hq; clear hq
    obtain ⟨z, h1, rfl⟩ := binA_run (w := w) h (hr x (by simp [Op.operands])) (hr y (by simp [Op.operands]))
    refine ⟨z, g, w, .inl ?_, Gh.le.refl g, S, .val z⟩
    simp only [execOp, Sem.run_bind] at h1 ⊢
    rw [h1]
    rfl
  | unOp op t x =>
    simp only [stepA] at h
    obtain ⟨hq, hH⟩ := pure_map h; subst hH; clear h; have h := hq; clear hq
    obtain ⟨z, h1, rfl⟩ := unA_run (w := w) h (hr x (by simp [Op.operands]))
    exact ⟨z, g, w, .inl (by simp only [execOp, Sem.run_bind, h1, Result.andThen_ok, Sem.run_pure]), Gh.le.refl g, S, .val z⟩
  | convert src dst' x =>
    simp only [stepA] at h
    obtain ⟨hq, hH⟩ := pure_map h; subst hH; clear h; have h := hq; clear hq
    obtain ⟨z, h1, rfl⟩ := convA_run (w := w) h (hr x (by simp [Op.operands]))
    exact ⟨z, g, w, .inl (by simp only [execOp, Sem.run_bind, h1, Result.andThen_ok, Sem.run_pure]), Gh.le.refl g, S, .val z⟩
  | makeFunc f first captured =>
    simp only [stepA] at h
    split at h
    · rename_i k
      split at h
      · rename_i h0
        cases h
        obtain ⟨hl, hp⟩ := list_rel (g := g) (T := T) (a := a) captured (fun x hx => hr x (by simp [Op.operands, hx]))
        refine ⟨.func (.func k) #[] (captured.map a.eval), g, w, .inl ?_, Gh.le.refl g, S, .fn (by simp) hl hp⟩
        have : first = #[] := Array.eq_empty_of_size_eq_zero h0
        subst this
        simp [execOp, Instr.makeFunc]
      · split at h
        · rename_i h0
          cases h
          obtain ⟨hl, hp⟩ := list_rel (g := g) (T := T) (a := a) first (fun x hx => hr x (by simp [Op.operands, hx]))
          refine ⟨.func (.func k) (first.map a.eval) #[], g, w, .inl ?_, Gh.le.refl g, S, .mth hl hp⟩
          have : captured = #[] := Array.eq_empty_of_size_eq_zero h0
          subst this
          simp [execOp, Instr.makeFunc]
        · cases h
    · cases h
  | makeSlice t l c =>
    have hl := hr l (by simp [Op.operands])
    have hc := hr c (by simp [Op.operands])
    simp only [stepA] at h
    split at h
    · rename_i kl n kc m e1 e2
      rw [e1] at hl
      rw [e2] at hc
      generalize hlv : a.eval l = lv at hl
      generalize hcv : a.eval c = cv at hc
      cases hl; cases hc
      split at h
      · rename_i hnm
        subst hnm
        split at h
        · rename_i es e hmk
          cases h
          obtain ⟨v, w', g', h1, h2, h3, h4⟩ := make_own S (kl := kl) (kc := kc) hmk
          exact ⟨v, g', w', .inl (by simp only [execOp, Sem.run_bind, hlv, hcv, h1, Result.andThen_ok, Sem.run_pure]), h2, h3, h4⟩
        · cases h
      · cases h
    · cases h
  | slice t x lo hi mx =>
    simp only [stepA] at h
    obtain ⟨hq, hH⟩ := pure_map h; subst hH; clear h; have h := hq; clear hq
    have ho : ∀ (y : Option Operand), (∀ z, y = some z → z ∈ (Op.slice t x lo hi mx).operands) → ROpt g (y.map (evA T)) (y.map a.eval) := by
      intro y hy
      cases y with
      | none => exact trivial
      | some z => exact hr z (hy z rfl)
    obtain ⟨v, h1, h2⟩ := slice_run (w := w) h (hr x (by simp [Op.operands])) (ho lo (by intro z hz; subst hz; simp [Op.operands])) (ho hi (by intro z hz; subst hz; simp [Op.operands])) (ho mx (by intro z hz; subst hz; simp [Op.operands]))
    exact ⟨v, g, w, .inl (by simp only [execOp, Sem.run_bind, h1, Result.andThen_ok, Sem.run_pure]), Gh.le.refl g, S, h2⟩
  | fieldAddr s x f =>
    have hx := hr x (by simp [Op.operands])
    simp only [stepA] at h
    split at h
    · rename_i d hd
      split at h
      · rename_i cs off e
        rw [e] at hx
        cases h
        obtain ⟨ad, h1, h2⟩ := rptr_add (d := d) hx
        exact ⟨_, g, w, .inl (by simp only [execOp, Sem.run_bind, h1, fieldOff_run hd, Result.andThen_ok, Sem.run_pure]), Gh.le.refl g, S, h2⟩
      · rename_i b i off e
        rw [e] at hx
        cases h
        obtain ⟨ad, h1, h2⟩ := mptr_add (d := d) hx
        exact ⟨_, g, w, .inl (by simp only [execOp, Sem.run_bind, h1, fieldOff_run hd, Result.andThen_ok, Sem.run_pure]), Gh.le.refl g, S, h2⟩
      · cases h
    · cases h
  | field t x f =>
    have hx := hr x (by simp [Op.operands])
    simp only [stepA] at h
    have key : ∀ (cs : List AV) (vs : Array Value) (fs : Array Field) (fl : Field), RCells g cs vs → a.eval x = .agg vs → P.underlying t = some (.struct fs) → fs[f]? = some fl → loadA P fl.type cs fl.offset = some r →
        ∃ v, (execOp a.eval { dst, op := .field t x f, type, pos, after, guard }).run P w = .ok (.value v) w ∧ R g r v := by
      intro cs vs fs fl hc hv hu hf hl
      have hpart : ∃ v, (part fl.type vs fl.offset).run P w = .ok v w ∧ R g r v := part_of hc hl
      obtain ⟨v, h1, h2⟩ := hpart
      exact ⟨v, by simp [execOp, Instr.field, run_underlying hu, hf, hv, asAgg, h1], h2⟩
    have hfld : ∀ ft fo, fieldTO P t f = some (ft, fo) → ∃ fs fl, P.underlying t = some (.struct fs) ∧ fs[f]? = some fl ∧ fl.type = ft ∧ fl.offset = fo := by
      intro ft fo hq
      unfold fieldTO at hq
      split at hq
      · rename_i fs hu
        split at hq
        · rename_i fl hf
          cases hq
          exact ⟨fs, fl, hu, hf, rfl, rfl⟩
        · cases hq
      · cases hq
    split at h
    · rename_i cs ft fo e hq
      obtain ⟨fs, fl, hu, hf, rfl, rfl⟩ := hfld _ _ hq
      rw [e] at hx
      obtain ⟨hq, hH⟩ := pure_map h; subst hH; clear h; have h := hq; clear hq
      generalize hxv : a.eval x = xv at hx
      cases hx with
      | agg hl hr' =>
        obtain ⟨v, h1, h2⟩ := key cs _ fs fl ⟨hl, hr'⟩ hxv hu hf h
        exact ⟨v, g, w, .inl h1, Gh.le.refl g, S, h2⟩
    · rename_i vs ft fo e hq
      obtain ⟨fs, fl, hu, hf, rfl, rfl⟩ := hfld _ _ hq
      rw [e] at hx
      obtain ⟨hq, hH⟩ := pure_map h; subst hH; clear h; have h := hq; clear hq
      generalize hxv : a.eval x = xv at hx
      cases hx
      obtain ⟨v, h1, h2⟩ := key _ _ fs fl (RCells.vals vs) hxv hu hf h
      exact ⟨v, g, w, .inl h1, Gh.le.refl g, S, h2⟩
    · cases h
  | indexAddr t x i =>
    have hx := hr x (by simp [Op.operands])
    have hi := hr i (by simp [Op.operands])
    simp only [stepA] at h
    have hsl : ∀ e k, elemA P t = .sl e k → ∃ inf, P.underlying t = some (.slice e) ∧ P.info? e = some inf ∧ inf.size = k := by
      intro e k hq
      unfold elemA at hq
      split at hq
      · rename_i e' hu
        split at hq
        · rename_i k' hk
          cases hq
          obtain ⟨inf, hi, rfl⟩ := Option.map_eq_some_iff.1 hk
          exact ⟨inf, hu, hi, rfl⟩
        · cases hq
      · split at hq
        · split at hq <;> cases hq
        · cases hq
      · cases hq
    have har : ∀ m e k, elemA P t = .ar m e k → ∃ inf, P.underlying t = some (.array m e) ∧ P.info? e = some inf ∧ inf.size = k ∧ 2 ≤ m := by
      intro m e k hq
      unfold elemA at hq
      split at hq
      · split at hq <;> cases hq
      · rename_i n' e' hu
        split at hq
        · rename_i k' hk
          split at hq
          · cases hq
            obtain ⟨inf, hi, rfl⟩ := Option.map_eq_some_iff.1 hk
            exact ⟨inf, hu, hi, rfl, by assumption⟩
          · cases hq
        · cases hq
      · cases hq
    split at h
    · rename_i k n e
      rw [e] at hi
      generalize hiv : a.eval i = iv at hi
      cases hi
      split at h
      · rename_i h0
        split at h
        · rename_i es ex el k e2 hq
          obtain ⟨inf, hu, hinf, rfl⟩ := hsl _ _ hq
          rw [e2] at hx
          split at h
          · rename_i c hc
            split at h
            · rename_i hlen
              cases h
              obtain ⟨ad, m, cap, h1, h2, h3⟩ := rsl_index hx hc
              subst h2
              have hn : n.toNat < es.length := (List.getElem?_eq_some_iff.1 hc).1
              rw [hlen] at h3
              refine ⟨_, g, w, .inl ?_, Gh.le.refl g, S, h3⟩
              have hlt : n < (es.length : Int) := by omega
              simp [execOp, Instr.indexAt, hiv, h1, asIntOf, run_underlying hu, h0, hlt, run_sizeOf _ _ hinf]
            · cases h
          · cases h
        · rename_i b off len el k e2 hq
          obtain ⟨inf, hu, hinf, rfl⟩ := hsl _ _ hq
          rw [e2] at hx
          split at h
          · rename_i es t' hb
            split at h
            · rename_i hn
              split at h
              · rename_i c hc
                split at h
                · rename_i hlen
                  cases h
                  obtain ⟨ad, cap, h1, h3⟩ := msl_index S hx hb hc
                  rw [hlen] at h3
                  refine ⟨_, g, w, .inl ?_, Gh.le.refl g, S, h3⟩
                  have hlt : n < (len : Int) := by omega
                  simp [execOp, Instr.indexAt, hiv, h1, asIntOf, run_underlying hu, h0, hlt, run_sizeOf _ _ hinf]
                · cases h
              · cases h
            · cases h
          · cases h
        · rename_i cs off m el k e2 hq
          obtain ⟨inf, hu, hinf, rfl, h2⟩ := har _ _ _ hq
          rw [e2] at hx
          split at h
          · rename_i hlt
            cases h
            obtain ⟨ad, h1, h3⟩ := rptr_add (d := n.toNat * inf.size) hx
            refine ⟨_, g, w, .inl ?_, Gh.le.refl g, S, h3⟩
            simp [execOp, Instr.indexAt, Instr.sureAddr, hiv, h1, asIntOf, run_underlying hu, h0, hlt, run_sizeOf _ _ hinf]
          · cases h
        · rename_i b j off m el k e2 hq
          obtain ⟨inf, hu, hinf, rfl, h2⟩ := har _ _ _ hq
          rw [e2] at hx
          split at h
          · rename_i hlt
            cases h
            obtain ⟨ad, h1, h3⟩ := mptr_add (d := n.toNat * inf.size) hx
            refine ⟨_, g, w, .inl ?_, Gh.le.refl g, S, h3⟩
            simp [execOp, Instr.indexAt, Instr.sureAddr, hiv, h1, asIntOf, run_underlying hu, h0, hlt, run_sizeOf _ _ hinf]
          · cases h
        · cases h
      · cases h
    · cases h
  | index t x i =>
    simp only [stepA] at h
    split at h
    · rename_i u v hu hv
      simp only [Option.map_eq_some_iff, Prod.mk.injEq] at h
      obtain ⟨z, hz, rfl, rfl⟩ := h
      have e1 := (hr x (by simp [Op.operands])).flat u hu
      have e2 := (hr i (by simp [Op.operands])).flat v hv
      refine ⟨z, g, w, .inl ?_, Gh.le.refl g, S, .val z⟩
      simp only [execOp, Sem.run_bind, e1, e2, pureRun_run hz w, Result.andThen_ok, Sem.run_pure]
    · rename_i kk n _ hv
      have e2 := (hr i (by simp [Op.operands])).flat _ hv
      have hx := hr x (by simp [Op.operands])
      split at h
      · rename_i cs m e k ecs hq
        rw [ecs] at hx
        split at h
        · rename_i hnm
          obtain ⟨hq2, hH⟩ := pure_map h; subst hH; clear h; have h := hq2; clear hq2
          unfold elemA at hq
          split at hq
          · split at hq <;> cases hq
          · rename_i n' e' hu
            split at hq
            · rename_i k' hk
              split at hq
              · cases hq
                unfold sizeA at hk
                generalize hxv : a.eval x = xv at hx
                cases hx with
                | agg hl hr' =>
                  obtain ⟨v, h1, h2⟩ := part_of (w := w) ⟨hl, hr'⟩ h
                  refine ⟨v, g, w, .inl ?_, Gh.le.refl g, S, h2⟩
                  obtain ⟨inf, hinf, rfl⟩ : ∃ inf, P.info? e = some inf ∧ inf.size = k := by
                    cases hi : P.info? e with
                    | none => rw [hi] at hk; cases hk
                    | some inf => rw [hi] at hk; first | (cases hk; exact ⟨inf, rfl, rfl⟩) | (simp at hk; exact ⟨inf, rfl, hk⟩)
                  simp [execOp, Instr.index, hxv, e2, asIntOf, run_underlying hu, hnm, run_sizeOf _ _ hinf, h1]
              · cases hq
            · cases hq
          · cases hq
        · cases h
      · cases h
    · cases h
  | extract t ix =>
    have hx := hr t (by simp [Op.operands])
    simp only [stepA] at h
    split at h
    · rename_i cs e
      rw [e] at hx
      obtain ⟨hq, hH⟩ := pure_map h; subst hH; clear h; have h := hq; clear hq
      generalize hxv : a.eval t = xv at hx
      cases hx with
      | tup hl hr' =>
        obtain ⟨v, h1, h2⟩ := (RCells.mk hl hr').get h
        exact ⟨v, g, w, .inl (by simp [execOp, Instr.extract, hxv, h1]), Gh.le.refl g, S, h2⟩
    · rename_i vs e
      rw [e] at hx
      generalize hxv : a.eval t = xv at hx
      cases hx
      simp only [Option.map_eq_some_iff, Prod.mk.injEq] at h
      obtain ⟨z, hz, rfl, rfl⟩ := h
      exact ⟨z, g, w, .inl (by simp [execOp, Instr.extract, hxv, hz]), Gh.le.refl g, S, .val z⟩
    · cases h
  | makeMap t reserve =>
    cases reserve with
    | some _ => simp [stepA] at h
    | none =>
      simp only [stepA] at h
      cases h
      have S2 := S.alloc (k := 0) (c := 0) (ob := .amap []) (World.grownBy_alloc w (.map #[] 0) none) (heap_alloc_new _ _) (.amap rfl (by simp) stamped_nil)
      exact ⟨.map (some w.heap.size), _, _, .inl (by simp only [execOp, Option.map_none, Sem.run_bind, run_makeMap, Result.andThen_ok, Sem.run_pure]), Gh.phAdd_le S.fresh, S2, .mp (by simp [Gh.phAdd])⟩
  | lookup t x i ok =>
    simp only [stepA] at h
    obtain ⟨hq, hH⟩ := pure_map h; subst hH; clear h; have h := hq; clear hq
    obtain ⟨v, h1, h2⟩ := lookA_run S h (hr x (by simp [Op.operands])) (hr i (by simp [Op.operands]))
    exact ⟨v, g, w, .inl (by simp only [execOp, Sem.run_bind, h1, Result.andThen_ok, Sem.run_pure]), Gh.le.refl g, S, h2⟩
  | mapUpdate t m k v =>
    simp only [stepA, Option.map_eq_some_iff, Prod.mk.injEq] at h
    obtain ⟨H1, h, rfl, rfl⟩ := h
    obtain ⟨w', h1, h2⟩ := updA_run S h (hr m (by simp [Op.operands])) (hr k (by simp [Op.operands])) (hr v (by simp [Op.operands]))
    exact ⟨undef, g, w', .inr ⟨by simp only [execOp, Sem.run_bind, h1, Result.andThen_ok, Sem.run_pure], rfl⟩, Gh.le.refl g, h2, .val _⟩
  | call c =>
    obtain ⟨callee, args, aT⟩ := c
    simp only [stepA] at h
    split at h
    · rename_i b
      obtain ⟨hl, hp⟩ := list_rel (g := g) (T := T) (a := a) args (fun x hx => hr x (by simp [Op.operands, Call.operands, hx]))
      have hexec : ∀ (v : Value) (w' : World), (∀ consts, (builtin b aT type consts (args.map a.eval)).run P w = .ok (.value v) w') → (execOp a.eval { dst, op := .call ⟨.builtin b, args, aT⟩, type, pos, after, guard }).run P w = .ok (.value v) w' := by
        intro v w' hb
        simp only [execOp, resolve, invoke, Sem.run_bind, Sem.run_pure, Result.andThen_ok]
        exact hb _
      unfold builtinA at h
      split at h
      · rename_i t x e1 e2
        obtain ⟨hq, hH⟩ := pure_map h; subst hH; clear h; have h := hq; clear hq
        
        have hsz : (args.map a.eval).size = 1 := by rw [← hl, e2]; rfl
        have hxx := hp 0 x ((args.map a.eval)[0]) (by rw [e2]; rfl) (Array.getElem?_eq_getElem (by omega))
        have hargs : args.map a.eval = #[(args.map a.eval)[0]] := by
          apply Array.ext
          · simpa using hsz
          · intro i h1 h2
            have : i = 0 := by omega
            subst this
            rfl
        have haT : aT = #[t] := by apply Array.ext'; simpa using e1
        obtain ⟨v, h1, h2⟩ := lenA_run (ty := type) S h hxx
        refine ⟨v, g, w, .inl (hexec v w fun consts => ?_), Gh.le.refl g, S, h2⟩
        rw [hargs, haT]
        simp only [builtin, Sem.run_bind, h1, Result.andThen_ok, Sem.run_pure]
      · rename_i t t' s x e1 e2
        have hsz : (args.map a.eval).size = 2 := by rw [← hl, e2]; rfl
        have hss := hp 0 s ((args.map a.eval)[0]) (by rw [e2]; rfl) (Array.getElem?_eq_getElem (by omega))
        have hxx := hp 1 x ((args.map a.eval)[1]) (by rw [e2]; rfl) (Array.getElem?_eq_getElem (by omega))
        have hargs : args.map a.eval = #[(args.map a.eval)[0], (args.map a.eval)[1]] := by
          apply Array.ext
          · simpa using hsz
          · intro i h1 h2
            have : i = 0 ∨ i = 1 := by omega
            rcases this with rfl | rfl <;> rfl
        have haT : aT = #[t, t'] := by apply Array.ext'; simpa using e1
        obtain ⟨v, g', w', h1, h2, h3, h4⟩ := appendA_run (ty := type) S h hss hxx
        refine ⟨v, g', w', .inl (hexec v w' fun consts => ?_), h2, h3, h4⟩
        rw [hargs, haT]
        simp only [builtin, Sem.run_bind, h1, Result.andThen_ok, Sem.run_pure]
      · obtain ⟨hq, hH⟩ := pure_map h; subst hH; clear h; have h := hq; clear hq
        obtain ⟨z, h1, rfl⟩ := maxA_run (P := P) (w := w) true _ (args.map a.eval).toList r aT type h (by simp) (fun i c u hc hu => hp i c u hc (by simpa using hu))
        refine ⟨z, g, w, .inl (hexec z w fun consts => ?_), Gh.le.refl g, S, .val z⟩
        simp only [if_true, Array.toArray_toList] at h1
        simp only [builtin, Sem.run_bind, h1, Result.andThen_ok, Sem.run_pure]
      · obtain ⟨hq, hH⟩ := pure_map h; subst hH; clear h; have h := hq; clear hq
        obtain ⟨z, h1, rfl⟩ := maxA_run (P := P) (w := w) false _ (args.map a.eval).toList r aT type h (by simp) (fun i c u hc hu => hp i c u hc (by simpa using hu))
        refine ⟨z, g, w, .inl (hexec z w fun consts => ?_), Gh.le.refl g, S, .val z⟩
        simp only [Bool.false_eq_true, if_false, Array.toArray_toList] at h1
        simp only [builtin, Sem.run_bind, h1, Result.andThen_ok, Sem.run_pure]
      · rename_i t t' m k e1 e2
        simp only [Option.map_eq_some_iff, Prod.mk.injEq] at h
        obtain ⟨H1, h, rfl, rfl⟩ := h
        have hsz : (args.map a.eval).size = 2 := by rw [← hl, e2]; rfl
        have hmm := hp 0 m ((args.map a.eval)[0]) (by rw [e2]; rfl) (Array.getElem?_eq_getElem (by omega))
        have hkk := hp 1 k ((args.map a.eval)[1]) (by rw [e2]; rfl) (Array.getElem?_eq_getElem (by omega))
        have hargs : args.map a.eval = #[(args.map a.eval)[0], (args.map a.eval)[1]] := by
          apply Array.ext
          · simpa using hsz
          · intro i h1 h2
            have : i = 0 ∨ i = 1 := by omega
            rcases this with rfl | rfl <;> rfl
        have haT : aT = #[t, t'] := by apply Array.ext'; simpa using e1
        obtain ⟨w', h1, h2⟩ := delA_run (t2 := t') (ty := type) S h hmm hkk
        refine ⟨.tuple #[], g, w', .inl (hexec _ w' fun consts => ?_), Gh.le.refl g, h2, .val _⟩
        rw [hargs, haT]
        simp only [builtin, Sem.run_bind, h1, Result.andThen_ok, Sem.run_pure]
      · cases h
    · cases h
  | _ => simp [stepA] at h

end Go.Proofs.Ytphfdbmbdaninaa.Ab
