/- The operations on abstract values, each with the reason why the machine does the same: those that make no call. -/
import Derived.Test.YtphfdbmbdaninaaA1
namespace Go.Proofs.Ytphfdbmbdaninaa.Ab
open Go Go.RowKit

variable {base : Nat} {w0 w w' : World} {g : Gh} {H : Hp} {P : Program}

theorem add_none (b o n : Nat) : (⟨b, o, none⟩ : Addr).add n = ⟨b, o + n, none⟩ := by
  unfold Addr.add; split <;> simp_all

/-- the tree of an operation that asks the world nothing -/
def pureRun {α : Type} (P : Program) : Sem α → Option α
  | .pure a => some a
  | .program k => pureRun P (k P)
  | .mark _ k => pureRun P k
  | _ => none

theorem pureRun_run {α : Type} {s : Sem α} {a : α} (h : pureRun P s = some a) (w : World) : s.run P w = .ok a w := by
  induction s with
  | pure x => simp only [pureRun, Option.some.injEq] at h; subst h; rfl
  | program k ih => exact ih P h
  | mark m k ih => exact ih h
  | _ => simp [pureRun] at h

theorem pureRun_bind {α β : Type} (s : Sem α) (f : α → Sem β) : pureRun P (s >>= f) = (pureRun P s).bind fun a => pureRun P (f a) := by
  show pureRun P (s.bind f) = _
  induction s with
  | pure x => rfl
  | program k ih => exact ih P
  | mark m k ih => exact ih
  | _ => rfl

mutual
/-- a value without addresses of ours -/
def AV.flat : AV → Option Value
  | .val v => some v
  | .agg cs => (AV.flats cs).map fun vs => .agg vs.toArray
  | .tup cs => (AV.flats cs).map fun vs => .tuple vs.toArray
  | _ => none
def AV.flats : List AV → Option (List Value)
  | [] => some []
  | c :: cs => (AV.flat c).bind fun v => (AV.flats cs).map fun vs => v :: vs
end

theorem R.flat {g : Gh} {a : AV} {u : Value} (h : R g a u) : ∀ v, a.flat = some v → u = v := by
  induction h with
  | val v => intro v' h; simpa [AV.flat] using h
  | agg hl hr ih =>
    rename_i cs us
    intro v h
    simp only [AV.flat, Option.map_eq_some_iff] at h
    obtain ⟨vs, hvs, rfl⟩ := h
    have : us = vs.toArray := by
      apply flats_of' cs vs us hvs hl ih
    rw [this]
  | tup hl hr ih =>
    rename_i cs us
    intro v h
    simp only [AV.flat, Option.map_eq_some_iff] at h
    obtain ⟨vs, hvs, rfl⟩ := h
    have : us = vs.toArray := by
      apply flats_of' cs vs us hvs hl ih
    rw [this]
  | _ => intro v h; simp [AV.flat] at h
where
  flats_of' : ∀ (cs : List AV) (vs : List Value) (us : Array Value), AV.flats cs = some vs → cs.length = us.size →
    (∀ (i : Nat) (c : AV) (v : Value), cs[i]? = some c → us[i]? = some v → ∀ v', c.flat = some v' → v = v') → us = vs.toArray
  | [], vs, us, h, hl, _ => by
    simp only [AV.flats, Option.some.injEq] at h
    subst h
    apply Array.ext'
    have : us.size = 0 := by simpa using hl.symm
    exact List.eq_nil_of_length_eq_zero (by simpa using this)
  | c :: cs, vs, us, h, hl, hr => by
    simp only [AV.flats, Option.bind_eq_some_iff, Option.map_eq_some_iff] at h
    obtain ⟨v, hv, vs', hvs, rfl⟩ := h
    rcases us with ⟨us⟩
    cases us with
    | nil => simp at hl
    | cons u us =>
      have h0 := hr 0 c u (by simp) (by simp) v hv
      have := flats_of' cs vs' us.toArray hvs (by simpa using hl) (fun i d v hd hv => hr (i + 1) d v (by simpa using hd) (by simpa using hv))
      subst h0
      have e : us = vs' := by simpa using congrArg Array.toList this
      rw [e]

/-- the cells of a value -/
def AV.cells : AV → List AV
  | .agg cs => cs
  | .val v => v.cells.toList.map .val
  | a => [a]

structure RCells (g : Gh) (cs : List AV) (vs : Array Value) : Prop where
  size : cs.length = vs.size
  cell : ∀ (i : Nat) (c : AV) (v : Value), cs[i]? = some c → vs[i]? = some v → R g c v

theorem RCells.get {cs : List AV} {vs : Array Value} (h : RCells g cs vs) {i : Nat} {c : AV} (hc : cs[i]? = some c) : ∃ v, vs[i]? = some v ∧ R g c v := by
  have hi : i < vs.size := by rw [← h.size]; exact (List.getElem?_eq_some_iff.1 hc).1
  exact ⟨vs[i], by simp [hi], h.cell i c _ hc (by simp [hi])⟩

theorem RCells.mono {g' : Gh} (hg : g.le g') {cs : List AV} {vs : Array Value} (h : RCells g cs vs) : RCells g' cs vs := ⟨h.size, fun i c v hc hv => (h.cell i c v hc hv).mono hg⟩

theorem RCells.one {a : AV} {v : Value} (h : R g a v) : RCells g [a] #[v] :=
  ⟨rfl, fun i c u hc hu => by
    cases i with
    | zero => simp at hc hu; subst hc; subst hu; exact h
    | succ i => simp at hc⟩

theorem R.cells {a : AV} {v : Value} (h : R g a v) : RCells g a.cells v.cells := by
  cases h with
  | val v =>
    refine ⟨by simp [AV.cells], fun i c u hc hu => ?_⟩
    simp only [AV.cells, List.getElem?_map, Option.map_eq_some_iff, Array.getElem?_toList] at hc
    obtain ⟨x, hx, rfl⟩ := hc
    rw [hx] at hu
    cases hu
    exact .val _
  | agg hl hr => exact ⟨hl, hr⟩
  | rptr vs hf hr => exact RCells.one (.rptr vs hf hr)
  | mptr h => exact RCells.one (.mptr h)
  | rsl vs hn hl hc hm hk hf hr => exact RCells.one (.rsl vs hn hl hc hm hk hf hr)
  | rnil a => exact RCells.one (.rnil a)
  | msl h hl hc hm => exact RCells.one (.msl h hl hc hm)
  | fn hy hl hr => exact RCells.one (.fn hy hl hr)
  | mth hl hr => exact RCells.one (.mth hl hr)
  | yld h => exact RCells.one (.yld h)
  | mp h => exact RCells.one (.mp h)
  | tup hl hr => exact RCells.one (.tup hl hr)

/-! ### a new block of cells -/

theorem ORel.one {g : Gh} {cs : List AV} {vs : Array Value} {t : TypeId} (h : RCells g cs vs) : ORel g cs.length 1 (.cells [cs] t) (.cells vs t (0, 0)) := by
  refine .cells (by rw [h.size]; omega) (by simp) (fun i e he => ?_) (fun i e j c he hc => ?_)
  · cases i with
    | zero => simp at he; subst he; rfl
    | succ i => simp at he
  · cases i with
    | zero =>
      simp at he; subst he
      simpa using h.get hc
    | succ i => simp at he

/-- a boxed value: in a row that never turns -/
theorem box_fz (S : Sim base w0 g H w) {cs : List AV} {vs : Array Value} (h : RCells g cs vs) (t : TypeId) :
    ∃ g', g.le g' ∧ Sim base w0 g' H (w.alloc (.cells vs t)) ∧ R g' (.rptr cs 0) (.pointer (some ⟨w.heap.size, 0, none⟩)) := by
  refine ⟨_, S.fzAdd_le vs, S.allocFz vs t, ?_⟩
  have hle := S.fzAdd_le vs
  refine R.rptr (o := 0) (fun i => vs[i]?.getD undef) (fun i hi => ?_) (fun i c hc => ?_)
  · show (if w.heap.size = w.heap.size then vs[0 + i]? else _) = _
    rw [if_pos rfl, Nat.zero_add]
    have : i < vs.size := by rw [← h.size]; exact hi
    simp [this]
  · obtain ⟨v, hv, hr⟩ := h.get hc
    simp only [hv, Option.getD_some]
    exact hr.mono hle

/-- a boxed value: in an own block -/
theorem box_own (S : Sim base w0 g H w) {cs : List AV} {vs : Array Value} (h : RCells g cs vs) (t : TypeId) :
    ∃ g', g.le g' ∧ Sim base w0 g' (H ++ [.cells [cs] t]) (w.alloc (.cells vs t)) ∧ R g' (.mptr H.length 0 0) (.pointer (some ⟨w.heap.size, 0, none⟩)) := by
  have hle : g.le (g.phAdd H.length w.heap.size cs.length 1) := Gh.phAdd_le S.fresh
  refine ⟨_, hle, S.alloc (World.grownBy_alloc w _ none) (heap_alloc_new w _) (ORel.one (h.mono hle)), ?_⟩
  have := R.mptr (g := g.phAdd H.length w.heap.size cs.length 1) (b := H.length) (i := 0) (off := 0) (x := w.heap.size) (by simp [Gh.phAdd])
  simpa using this

/-! ### reading -/

theorem R.rptr_cell (S : Sim base w0 g H w) {cs : List AV} {off j : Nat} {p : Value} {c : AV} (h : R g (.rptr cs off) p) (hc : cs[off + j]? = some c) :
    ∃ ad : Addr, p = .pointer (some ad) ∧ ∃ v, w.cell? (ad.add j) = some v ∧ R g c v := by
  cases h with
  | rptr vs hf hr =>
    rename_i b o
    refine ⟨_, rfl, vs (off + j), ?_, hr _ _ hc⟩
    rw [add_none, Nat.add_assoc]
    exact S.fz _ _ _ (hf _ (List.getElem?_eq_some_iff.1 hc).1)

theorem cell_of_cells {x i : Nat} {cur : Array Value} {t : TypeId} {f : Nat × Nat} (h : w.heap[x]? = some (.cells cur t f)) : w.cell? ⟨x, i, none⟩ = cur[i]? := by
  simp [World.cell?, h]

theorem R.mptr_cell (S : Sim base w0 g H w) {b i off j : Nat} {p : Value} {es : List (List AV)} {t : TypeId} {e : List AV} {c : AV} (h : R g (.mptr b i off) p)
    (hb : H[b]? = some (.cells es t)) (he : es[i]? = some e) (hc : e[off + j]? = some c) :
    ∃ ad : Addr, p = .pointer (some ad) ∧ ∃ v, w.cell? (ad.add j) = some v ∧ R g c v := by
  cases h with
  | mptr h =>
    rename_i x
    obtain ⟨y, o, h1, h2, h3⟩ := S.obj b _ hb (by simp)
    rw [h] at h1; cases h1
    cases h3 with
    | cells hs hl hk hr =>
      obtain ⟨v, hv, hR⟩ := hr i e (off + j) c he hc
      refine ⟨_, rfl, v, ?_, hR⟩
      rw [add_none, cell_of_cells h2, Nat.add_assoc]
      exact hv

/-- what a load of type t reads out of cells, from off on -/
def loadA (P : Program) (t : TypeId) (cs : List AV) (off : Nat) : Option AV :=
  match P.underlying t, P.info? t with
  | some (.struct _), some i => if off + i.size ≤ cs.length then some (.agg ((cs.drop off).take i.size)) else none
  | some (.array _ _), some i => if off + i.size ≤ cs.length then some (.agg ((cs.drop off).take i.size)) else none
  | some _, some _ => cs[off]?
  | _, _ => none

theorem run_isAgg (t : TypeId) (d : TypeDesc) (h : P.underlying t = some d) : (isAgg t).run P w = .ok (match d with | .struct _ | .array _ _ => true | _ => false) w := by
  unfold isAgg
  simp only [Sem.run_bind, run_underlying h, Result.andThen_ok]
  cases d <;> rfl

theorem run_sizeOf (t : TypeId) (i : TypeInfo) (h : P.info? t = some i) : (sizeOf t).run P w = .ok i.size w := by
  simp [sizeOf, typeInfo, h]

theorem loadA_run {t : TypeId} {cs : List AV} {off : Nat} {a : AV} (h : loadA P t cs off = some a) (p : Value) (hne : ∃ ad : Addr, p = .pointer (some ad))
    (hcell : ∀ j c, cs[off + j]? = some c → ∃ ad : Addr, p = .pointer (some ad) ∧ ∃ v, w.cell? (ad.add j) = some v ∧ R g c v) :
    ∃ v, (Instr.loadAt t p).run P w = .ok v w ∧ R g a v := by
  obtain ⟨ad, rfl⟩ := hne
  have hcell' : ∀ j c, cs[off + j]? = some c → ∃ v, w.cell? (ad.add j) = some v ∧ R g c v := by
    intro j c hc
    obtain ⟨ad', e, v, h1, h2⟩ := hcell j c hc
    cases e
    exact ⟨v, h1, h2⟩
  have hagg : ∀ n, off + n ≤ cs.length → ∃ vs : List Value, (loadCells ad n).run P w = .ok vs.toArray w ∧ R g (.agg ((cs.drop off).take n)) (.agg vs.toArray) := by
    intro n hn
    have hall : ∀ j, j < n → ∃ c, cs[off + j]? = some c := fun j hj => ⟨cs[off + j], by simp [show off + j < cs.length by omega]⟩
    refine ⟨(List.range n).map fun j => (w.cell? (ad.add j)).getD undef, run_loadCells w ad n _ (fun j hj => ?_), ?_⟩
    · obtain ⟨c, hc⟩ := hall j hj
      obtain ⟨v, hv, _⟩ := hcell' j c hc
      simp [hv]
    · refine .agg (by simp; omega) (fun i c v hc hv => ?_)
      have hi : i < n := by
        rcases Nat.lt_or_ge i n with h | h
        · exact h
        · simp [h] at hv
      rw [List.getElem?_take, if_pos hi, List.getElem?_drop] at hc
      obtain ⟨u, hu, hR⟩ := hcell' i c hc
      simp [hi, hu] at hv
      subst hv
      exact hR
  unfold loadA at h
  unfold Instr.loadAt loadVar
  split at h
  · rename_i fs i hu hi
    split at h
    · cases h
      obtain ⟨vs, h1, h2⟩ := hagg i.size (by assumption)
      refine ⟨_, ?_, h2⟩
      simp [Instr.sureAddr, run_isAgg _ _ hu, run_sizeOf _ _ hi, h1]
    · cases h
  · rename_i n e i hu hi
    split at h
    · cases h
      obtain ⟨vs, h1, h2⟩ := hagg i.size (by assumption)
      refine ⟨_, ?_, h2⟩
      simp [Instr.sureAddr, run_isAgg _ _ hu, run_sizeOf _ _ hi, h1]
    · cases h
  · rename_i d i hs ha hu hi
    obtain ⟨v, hv, hR⟩ := hcell' 0 a (by simpa using h)
    rw [show ad.add 0 = ad from rfl] at hv
    refine ⟨v, ?_, hR⟩
    have hb : (isAgg t).run P w = .ok false w := by
      rw [run_isAgg _ _ hu]
      cases d <;> first | rfl | exact absurd rfl (hs _) | exact absurd rfl (ha _ _)
    simp [Instr.sureAddr, hb, hv]
  · cases h

end Go.Proofs.Ytphfdbmbdaninaa.Ab
