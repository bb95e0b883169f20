/- Composite values, made slices, slices of slices, appends. -/
import Derived.Test.YtphfdbmbdaninaaA3
namespace Go.Proofs.Ytphfdbmbdaninaa.Ab
open Go Go.RowKit

variable {base : Nat} {w0 w w' : World} {g : Gh} {H : Hp} {P : Program}

theorem foldset (off : Nat) : ∀ (l : List Value) (s : Nat) (cells : Array Value), off + s + l.length ≤ cells.size →
    ((l.zipIdx s).foldl (fun cs (c, j) => cs.setIfInBounds (off + j) c) cells).toList = setAt cells.toList (off + s) l
  | [], s, cells, h => by simp [setAt]
  | c :: l, s, cells, h => by
    rw [List.zipIdx_cons, List.foldl_cons, foldset off l (s + 1) _ (by simp at h ⊢; omega)]
    apply List.ext_getElem?
    intro j
    simp at h
    rw [setAt_get _ _ _ _ (by simp; omega), setAt_get _ _ _ _ (by simp; omega)]
    simp only [Array.toList_setIfInBounds, List.length_cons, List.getElem?_set, Array.length_toList]
    by_cases h1 : j < off + s
    · rw [if_pos (by omega), if_pos h1, if_neg (by omega)]
    · rw [if_neg h1]
      by_cases h2 : j = off + s
      · subst h2
        rw [if_pos (by omega), if_pos rfl, if_pos (by omega), if_pos (by omega)]
        simp
      · rw [if_neg (by omega)]
        by_cases h3 : j < off + s + (l.length + 1)
        · rw [if_pos (by omega), if_pos h3, show j - (off + s) = (j - (off + (s + 1))) + 1 by omega, List.getElem?_cons_succ]
        · rw [if_neg (by omega), if_neg h3, if_neg (by omega)]

def fillA (place : Nat → Option (Nat × Nat)) (cells : List AV) : List (Nat × AV) → Option (List AV)
  | [] => some cells
  | (i, v) :: rest =>
    match place i with
    | none => none
    | some (off, size) => if v.cells.length ≠ size ∨ off + v.cells.length > cells.length then none else fillA place (setAt cells off v.cells) rest

theorem RCells.setAt {cs ds : List AV} {vs us : Array Value} {off : Nat} (h : RCells g cs vs) (k : RCells g ds us) (hoff : off + ds.length ≤ cs.length) :
    RCells g (setAt cs off ds) (Ab.setAt vs.toList off us.toList).toArray := by
  have h1 := h.size
  have h2 := k.size
  refine ⟨by simp [setAt_length _ _ _ hoff]; rw [setAt_length _ _ _ (by simp; omega)]; simpa using h1, fun i c v hc hv => ?_⟩
  rw [setAt_get _ _ _ _ hoff] at hc
  rw [List.getElem?_toArray, setAt_get _ _ _ _ (by simp; omega)] at hv
  simp only [Array.length_toList, Array.getElem?_toList, ← h2] at hv
  by_cases e1 : i < off
  · rw [if_pos e1] at hc hv; exact h.cell i c v hc hv
  · rw [if_neg e1] at hc hv
    by_cases e2 : i < off + ds.length
    · rw [if_pos e2] at hc hv; exact k.cell _ c v hc hv
    · rw [if_neg e2] at hc hv; exact h.cell i c v hc hv

theorem fill_run (place : Nat → Option (Nat × Nat)) : ∀ (ps : List (Nat × AV)) (qs : List (Nat × Value)) (cs : List AV) (vs : Array Value) (out : List AV),
    RCells g cs vs → ps.length = qs.length → (∀ (n : Nat) (p : Nat × AV) (q : Nat × Value), ps[n]? = some p → qs[n]? = some q → p.1 = q.1 ∧ R g p.2 q.2) → fillA place cs ps = some out →
    ∃ us, Instr.fill place vs qs = some us ∧ RCells g out us
  | [], [], cs, vs, out, h, _, _, e => by simp only [fillA, Option.some.injEq] at e; subst e; exact ⟨vs, rfl, h⟩
  | [], _ :: _, _, _, _, _, hl, _, _ => by simp at hl
  | _ :: _, [], _, _, _, _, hl, _, _ => by simp at hl
  | (i, a) :: ps, (i', v) :: qs, cs, vs, out, h, hl, hr, e => by
    obtain ⟨e0, hR⟩ := hr 0 (i, a) (i', v) rfl rfl
    simp only at e0; subst e0
    have hc := hR.cells
    simp only at hc
    have hsz := hc.size
    have hsz' := h.size
    simp only [fillA] at e
    simp only [Instr.fill]
    split at e
    · cases e
    · rename_i off size hp
      split at e
      · cases e
      · rename_i hn
        rw [not_or] at hn
        obtain ⟨hn1, hn2⟩ := hn
        simp only [hp]
        rw [if_neg (by simp only [Bool.or_eq_true, decide_eq_true_eq, not_or]; omega)]
        have hfold : (v.cells.zipIdx.foldl (fun cs (c, j) => cs.setIfInBounds (off + j) c) vs) = (setAt vs.toList off v.cells.toList).toArray := by
          have := foldset off v.cells.toList 0 vs (by simp; omega)
          apply Array.ext'
          rw [← Array.foldl_toList, Array.toList_zipIdx]
          simpa using this
        rw [hfold]
        exact fill_run place ps qs _ _ out (h.setAt hc (by omega)) (by simpa using hl) (fun n p q hp hq => hr (n + 1) p q (by simpa using hp) (by simpa using hq)) e

/-- the places of a struct's fields -/
def placeA (P : Program) (fields : Array Field) (i : Nat) : Option (Nat × Nat) :=
  match fields[i]? with
  | some f => match P.info? f.type with
    | some inf => some (f.offset, inf.size)
    | none => none
  | none => none

theorem places_run (P : Program) : ∀ (fs : List Field), (∀ f, f ∈ fs → (P.info? f.type).isSome = true) →
    (fs.mapM fun f => do pure (f.offset, ← sizeOf f.type) : Sem (List (Nat × Nat))).run P w = .ok (fs.map fun f => (f.offset, ((P.info? f.type).map (·.size)).getD 0)) w
  | [], _ => by simp
  | f :: fs, h => by
    have h1 := h f (by simp)
    obtain ⟨i, hi⟩ := Option.isSome_iff_exists.1 h1
    have ih := places_run P fs (fun f' hf => h f' (by simp [hf]))
    rw [List.mapM_cons]
    simp only [Sem.run_bind, run_sizeOf _ _ hi, Result.andThen_ok, Sem.run_pure, ih, List.map_cons, hi, Option.map_some, Option.getD_some]

/-- the parts of a composite literal -/
def partsA (T : Operand → AV) (ps : Array (Nat × Operand)) : List (Nat × AV) := ps.toList.map fun p => (p.1, T p.2)

def buildA (P : Program) (t : TypeId) (ps : List (Nat × AV)) : Option AV :=
  match P.underlying t, P.info? t with
  | some (.struct fields), some inf =>
    match inf.zero with
    | some z => if fields.toList.all (fun f => (P.info? f.type).isSome) then (fillA (placeA P fields) (z.cells.toList.map .val) ps).map .agg else none
    | none => none
  | some (.array _ elem), some inf =>
    match inf.zero, P.info? elem with
    | some z, some ie => (fillA (fun i => some (i * ie.size, ie.size)) (z.cells.toList.map .val) ps).map .agg
    | _, _ => none
  | _, _ => none

theorem RCells.vals (vs : Array Value) : RCells g (vs.toList.map .val) vs := by
  refine ⟨by simp, fun i c v hc hv => ?_⟩
  simp only [List.getElem?_map, Array.getElem?_toList, hv, Option.map_some, Option.some.injEq] at hc
  subst hc
  exact .val v

theorem build_run {t : TypeId} {ps : List (Nat × AV)} {qs : Array (Nat × Value)} {a : AV} (h : buildA P t ps = some a) (hl : ps.length = qs.size)
    (hr : ∀ (n : Nat) (p : Nat × AV) (q : Nat × Value), ps[n]? = some p → qs[n]? = some q → p.1 = q.1 ∧ R g p.2 q.2) :
    ∃ v, (Instr.build t qs).run P w = .ok v w ∧ R g a v := by
  have hr' : ∀ (n : Nat) (p : Nat × AV) (q : Nat × Value), ps[n]? = some p → qs.toList[n]? = some q → p.1 = q.1 ∧ R g p.2 q.2 := fun n p q hp hq => hr n p q hp (by simpa using hq)
  unfold buildA at h
  split at h
  · rename_i fields inf hu hi
    split at h
    · rename_i z hz
      split at h
      · rename_i hall
        simp only [Option.map_eq_some_iff] at h
        obtain ⟨cs, hcs, rfl⟩ := h
        obtain ⟨us, hus, hR⟩ := fill_run (placeA P fields) ps qs.toList _ _ cs (RCells.vals z.cells) (by simpa using hl) hr' hcs
        refine ⟨.agg us, ?_, .agg hR.size hR.cell⟩
        have hpl : (fields.mapM fun f => do pure (f.offset, ← sizeOf f.type) : Sem (Array (Nat × Nat))).run P w = .ok (fields.toList.map fun f => (f.offset, ((P.info? f.type).map (·.size)).getD 0)).toArray w := by
          rw [Array.mapM_eq_mapM_toList, Sem.run_map, places_run P fields.toList (fun f hf => List.all_eq_true.1 hall f hf)]
          rfl
        have hplace : (fun i => (fields.toList.map fun f => (f.offset, ((P.info? f.type).map (·.size)).getD 0)).toArray[i]?) = placeA P fields := by
          funext i
          simp only [List.getElem?_toArray, List.getElem?_map, Array.getElem?_toList, placeA]
          cases hf : fields[i]? with
          | none => rfl
          | some f =>
            have : f ∈ fields.toList := by simpa using Array.mem_of_getElem? hf
            obtain ⟨inf', hinf'⟩ := Option.isSome_iff_exists.1 (List.all_eq_true.1 hall f this)
            simp [hinf']
        simp only [Instr.build, Sem.run_bind, zeroValue, typeInfo, run_program, Result.andThen_ok, hi, hz, Sem.run_pure, run_underlying hu, hpl, hplace, hus]
      · cases h
    · cases h
  · rename_i n elem inf hu hi
    split at h
    · rename_i z ie hz hie
      simp only [Option.map_eq_some_iff] at h
      obtain ⟨cs, hcs, rfl⟩ := h
      obtain ⟨us, hus, hR⟩ := fill_run (fun i => some (i * ie.size, ie.size)) ps qs.toList _ _ cs (RCells.vals z.cells) (by simpa using hl) hr' hcs
      refine ⟨.agg us, ?_, .agg hR.size hR.cell⟩
      simp only [Instr.build, Sem.run_bind, zeroValue, typeInfo, run_program, Result.andThen_ok, hi, hz, Sem.run_pure, run_underlying hu, run_sizeOf _ _ hie, hus]
    · cases h
  · cases h

end Go.Proofs.Ytphfdbmbdaninaa.Ab
