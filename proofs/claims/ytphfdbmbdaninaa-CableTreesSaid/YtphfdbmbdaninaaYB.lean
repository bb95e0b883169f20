/- Slices that are made, literals of slices, slices of slices. '==' of structs, as one Bool of the cells' equalities. One operation: what it does to abstract values (stepA), and that the machine does so. Maps with integer keys. stepA: one operation that makes no call of a Go function. -/
import Derived.Test.YtphfdbmbdaninaaYA
import Derived.Laws.StructEq
import Derived.Carry
namespace Go.Proofs.Ytphfdbmbdaninaa.Ab
open Go Go.RowKit

variable {base : Nat} {w0 w w' : World} {g : Gh} {H : Hp} {P : Program}

theorem made_rel (g : Gh) {z : Array Value} {k n : Nat} (hz : z.size = k) (_hk : 0 < k) : FRel g k (List.replicate n (z.toList.map .val)) (madeCells z (n * k)).toList := by
  refine ⟨by simp [madeCells], fun i e he => ?_, fun i e j c he hc => ?_⟩
  · rw [List.getElem?_replicate] at he
    split at he
    · cases he; simpa using hz
    · cases he
  · rw [List.getElem?_replicate] at he
    split at he
    · rename_i hi
      cases he
      simp only [List.getElem?_map, Array.getElem?_toList, Option.map_eq_some_iff] at hc
      obtain ⟨v, hv, rfl⟩ := hc
      have hj : j < k := by rw [← hz]; exact (Array.getElem?_eq_some_iff.1 hv).1
      refine ⟨v, ?_, .val v⟩
      have hlt := idx_lt hi hj
      simp only [madeCells, Array.toList_map, Array.toList_range, List.getElem?_map, List.getElem?_range hlt, Option.map_some, Option.some.injEq]
      have e2 : (i * k + j) % k = j := by rw [Nat.mul_comm, Nat.mul_add_mod, Nat.mod_eq_of_lt hj]
      rw [hz, e2]
      have := (Array.getElem?_eq_some_iff.1 hv).2
      rw [← this]
      exact getElem!_pos z j (by omega)
    · cases he

theorem FRel.set {k : Nat} {es : List (List AV)} {us : List Value} (h : FRel g k es us) {i : Nat} {cs : List AV} {vs : Array Value} (hi : i < es.length) (hc : RCells g cs vs) (hk : cs.length = k) :
    i * k + vs.size ≤ us.length ∧ FRel g k (es.set i cs) (setAt us (i * k) vs.toList) := by
  have he : es[i]? = some es[i] := by simp [hi]
  have ho : ORel g k es.length (.cells es 0) (.cells us.toArray 0 (0, 0)) := h.orel (by simpa using h.size) (Nat.le_refl _) (by rw [← h.size]; simp)
  have hw := ORel.write (off := 0) ho he (by rw [h.len i _ he, hk]; omega) hc
  have hsz := hc.size
  have hset : setAt es[i] 0 cs = cs := by
    have := h.len i _ he
    simp [setAt, this, hk]
  refine ⟨by simpa using hw.1, ?_⟩
  have h2 := hw.2
  rw [hset] at h2
  cases h2 with
  | cells hs hl hk' hr =>
    refine ⟨by simpa using hs, hk', fun i' e j c he hc => ?_⟩
    obtain ⟨v, hv, hR⟩ := hr i' e j c he hc
    exact ⟨v, by simpa using hv, hR⟩

def fillE (k : Nat) (es : List (List AV)) : List (Nat × AV) → Option (List (List AV))
  | [] => some es
  | (i, v) :: rest => if v.cells.length = k ∧ i < es.length then fillE k (es.set i v.cells) rest else none

theorem fillE_length (k : Nat) : ∀ (ps : List (Nat × AV)) (es out : List (List AV)), fillE k es ps = some out → out.length = es.length
  | [], es, out, h => by simp only [fillE, Option.some.injEq] at h; rw [h]
  | (i, v) :: rest, es, out, h => by
    simp only [fillE] at h
    split at h
    · rw [fillE_length k rest _ _ h]; simp
    · cases h

theorem fillE_run (k : Nat) : ∀ (ps : List (Nat × AV)) (qs : List (Nat × Value)) (es : List (List AV)) (us : List Value) (out : List (List AV)),
    FRel g k es us → ps.length = qs.length → (∀ (n : Nat) (p : Nat × AV) (q : Nat × Value), ps[n]? = some p → qs[n]? = some q → p.1 = q.1 ∧ R g p.2 q.2) → fillE k es ps = some out →
    ∃ os : List Value, Instr.fill (fun i => some (i * k, k)) us.toArray qs = some os.toArray ∧ FRel g k out os
  | [], [], es, us, out, h, _, _, e => by simp only [fillE, Option.some.injEq] at e; subst e; exact ⟨us, rfl, h⟩
  | [], _ :: _, _, _, _, _, hl, _, _ => by simp at hl
  | _ :: _, [], _, _, _, _, hl, _, _ => by simp at hl
  | (i, a) :: ps, (i', v) :: qs, es, us, out, h, hl, hr, e => by
    obtain ⟨e0, hR⟩ := hr 0 (i, a) (i', v) rfl rfl
    simp only at e0; subst e0
    have hc := hR.cells
    simp only at hc
    have hsz := hc.size
    simp only [fillE] at e
    split at e
    · rename_i hif
      obtain ⟨hk, hi⟩ := hif
      obtain ⟨hfit, hF⟩ := h.set hi hc hk
      obtain ⟨os, h1, h2⟩ := fillE_run k ps qs _ _ out hF (by simpa using hl) (fun n p q hp hq => hr (n + 1) p q (by simpa using hp) (by simpa using hq)) e
      refine ⟨os, ?_, h2⟩
      rw [← h1]
      simp only [Instr.fill]
      rw [if_neg (by simp only [Bool.or_eq_true, decide_eq_true_eq, not_or, List.size_toArray]; omega)]
      congr 1
      have := foldset (i * k) v.cells.toList 0 us.toArray (by simp; omega)
      apply Array.ext'
      rw [← Array.foldl_toList, Array.toList_zipIdx]
      simpa using this
    · cases e

/-- a literal of a slice: its elements -/
def litA (P : Program) (t : TypeId) (len : Nat) (ps : List (Nat × AV)) : Option (List (List AV) × TypeId) :=
  match P.underlying t with
  | some (.slice e) => match P.info? e with
    | some inf => match inf.zero with
      | some z => if z.cells.size = inf.size ∧ 0 < inf.size ∧ len * inf.size ≤ 16777216 then (fillE inf.size (List.replicate len (z.cells.toList.map .val)) ps).map fun es => (es, e) else none
      | none => none
    | none => none
  | _ => none

theorem lit_run {t e : TypeId} {len : Nat} {ps : List (Nat × AV)} {qs : Array (Nat × Value)} {es : List (List AV)} (h : litA P t len ps = some (es, e)) (hl : ps.length = qs.size)
    (hr : ∀ (n : Nat) (p : Nat × AV) (q : Nat × Value), ps[n]? = some p → qs[n]? = some q → p.1 = q.1 ∧ R g p.2 q.2) :
    ∃ (k : Nat) (us : List Value), (Instr.buildSlice t len qs).run P w = .ok (.slice (some ⟨w.heap.size, 0, none⟩) len len) (w.alloc (.cells us.toArray e)) ∧ FRel g k es us ∧ es.length = len ∧ len ≤ maxLen := by
  unfold litA at h
  split at h
  · rename_i e' hu
    split at h
    · rename_i inf hi
      split at h
      · rename_i z hz
        split at h
        · rename_i hif
          obtain ⟨hzs, hk, hfit⟩ := hif
          simp only [Option.map_eq_some_iff, Prod.mk.injEq] at h
          obtain ⟨es', hes, rfl, rfl⟩ := h
          obtain ⟨us, h1, h2⟩ := fillE_run inf.size ps qs.toList _ _ es' (made_rel g hzs hk) (by simpa using hl) (fun n p q hp hq => hr n p q hp (by simpa using hq)) hes
          have hlen := fillE_length _ _ _ _ hes
          simp only [List.length_replicate] at hlen
          have hml : len ≤ maxLen := by
            have := Nat.le_mul_of_pos_right len hk
            simp only [maxLen]; omega
          refine ⟨inf.size, us, ?_, h2, hlen, hml⟩
          have hno : ¬ (len * inf.size > 2 ^ 24) := by omega
          simp only [Instr.buildSlice, Sem.run_bind, run_underlying hu, Result.andThen_ok, run_sizeOf _ _ hi]
          rw [if_neg hno]
          rw [Array.toArray_toList] at h1
          by_cases h0 : len * inf.size = 0
          · rw [if_pos h0]
            have hm : (Array.range (len * inf.size)).map (fun x => (#[] : Array Value)[x % (#[] : Array Value).size]!) = madeCells z.cells (len * inf.size) := by simp [h0, madeCells]
            simp only [Sem.run_bind, Sem.run_pure, Result.andThen_ok, hm, h1]
            simp [newRow]
          · rw [if_neg h0]
            have hm : (Array.range (len * inf.size)).map (fun x => z.cells[x % z.cells.size]!) = madeCells z.cells (len * inf.size) := rfl
            simp only [Sem.run_bind, zeroValue, typeInfo, run_program, hi, hz, Sem.run_pure, Result.andThen_ok, hm, h1]
            simp [newRow]
        · cases h
      · cases h
    · cases h
  · cases h

/-- frozen -/
theorem lit_fz (S : Sim base w0 g H w) {es : List (List AV)} {us : List Value} {k : Nat} (hF : FRel g k es us) (hm : es.length ≤ maxLen) (t : TypeId) :
    ∃ g', g.le g' ∧ Sim base w0 g' H (w.alloc (.cells us.toArray t)) ∧ R g' (.rsl es true) (.slice (some ⟨w.heap.size, 0, none⟩) es.length es.length) := by
  have hle := S.fzAdd_le us.toArray
  refine ⟨_, hle, S.allocFz us.toArray t, ?_⟩
  refine R.rsl (o := 0) (k := k) (fun i j => us[i * k + j]?.getD undef) rfl (Nat.le_refl _) (fun _ => rfl) hm hF.len (fun i j hi hj => ?_) (fun i e j c he hc => ?_)
  · show (if w.heap.size = w.heap.size then us.toArray[0 + i * k + j]? else _) = _
    rw [if_pos rfl, Nat.zero_add]
    have : i * k + j < us.length := by rw [hF.size]; exact idx_lt hi hj
    simp [this]
  · obtain ⟨v, hv, hR⟩ := hF.cell i e j c he hc
    simp only [hv, Option.getD_some]
    exact hR.mono hle

/-- make([]T, n) -/
def makeA (P : Program) (t : TypeId) (n : Int) : Option (List (List AV) × TypeId) :=
  match P.underlying t with
  | some (.slice e) => match P.info? e with
    | some inf => match inf.zero with
      | some z => if z.cells.size = inf.size ∧ 0 < inf.size ∧ 0 ≤ n ∧ inf.bytes * n ≤ 281474976710656 ∧ n ≤ 9223372036854775807 then some (List.replicate n.toNat (z.cells.toList.map .val), e) else none
      | none => none
    | none => none
  | _ => none

theorem make_own (S : Sim base w0 g H w) {t e : TypeId} {n : Int} {kl kc : IntKind} {es : List (List AV)} (h : makeA P t n = some (es, e)) :
    ∃ v w' g', (Instr.makeSlice t (.int kl n) (.int kc n)).run P w = .ok v w' ∧ g.le g' ∧ Sim base w0 g' (H ++ [.cells es e]) w' ∧ R g' (.msl H.length 0 n.toNat) v := by
  unfold makeA at h
  split at h
  · rename_i e' hu
    split at h
    · rename_i inf hi
      split at h
      · rename_i z hz
        split at h
        · rename_i hif
          obtain ⟨hzs, hk, hn, hb, hm⟩ := hif
          cases h
          have hr := run_make (P := P) w t e inf z hu hi hz kl kc n n hn (Int.le_refl _) hb hm
          have hF := made_rel g (n := n.toNat) hzs hk
          obtain ⟨g', h1, h2, h3⟩ := own_new S (w' := w.alloc (.cells (madeCells z.cells (n.toNat * inf.size)) e)) (cur := madeCells z.cells (n.toNat * inf.size)) (t := e) (cp := n.toNat) hF
            (by simp [madeCells]) (by simp) (by rw [← hF.size, List.take_length]) (by simp only [maxLen]; omega) (World.grownBy_alloc w _ none) (heap_alloc_new w _)
          simp only [List.length_replicate] at h3
          exact ⟨_, _, g', hr, h1, h2, h3⟩
        · cases h
      · cases h
    · cases h
  · cases h

/-! ### slices of slices -/

def bnd (d : Nat) : Option AV → Option Nat
  | none => some d
  | some (.val (.int _ i)) => if 0 ≤ i then some i.toNat else none
  | _ => none

theorem bnd_some (d d' : Nat) (x : AV) : bnd d (some x) = bnd d' (some x) := by
  cases x with
  | val v => cases v <;> rfl
  | _ => rfl

def sliceA (P : Program) (t : TypeId) (x : AV) (lo hi mx : Option AV) : Option AV :=
  match P.underlying t with
  | some (.slice e) => match P.info? e with
    | some inf => match x with
      | .rsl es ex => match bnd 0 lo, bnd es.length hi, bnd es.length mx with
        | some l, some h, some m =>
          if l ≤ h ∧ h ≤ m ∧ m ≤ es.length ∧ (l = h ∨ (es[l]?).map List.length = some inf.size) ∧ (mx.isSome → hi.isSome) then
            some (.rsl ((es.take h).drop l) (if mx.isSome then m == h else ex && h == es.length)) else none
        | _, _, _ => none
      | .msl b off len => match bnd 0 lo, bnd len hi, mx with
        | some l, some h, none => if l ≤ h ∧ h ≤ len then (if l = 0 then some (.msl b off h) else if l = h then some (.rsl [] false) else none) else none
        | _, _, _ => none
      | .val (.slice none 0 0) => match bnd 0 lo, bnd 0 hi, mx with
        | some l, some h, none => if l ≤ h ∧ h ≤ 0 then some (.val (.slice none 0 0)) else none
        | _, _, _ => none
      | _ => none
    | none => none
  | _ => none

def ROpt (g : Gh) : Option AV → Option Value → Prop
  | none, none => True
  | some a, some v => R g a v
  | _, _ => False

theorem bound_run {x : AV} {u : Value} {d n y : Nat} {c : BoundsCode} (h : bnd d (some x) = some n) (hr : R g x u) (hy : n ≤ y) : (Instr.sliceBound u y c).run P w = .ok n w := by
  unfold bnd at h
  split at h
  · rename_i e; cases e
  · rename_i k i e
    cases e
    split at h
    · rename_i h0
      cases h
      cases hr
      simp only [Instr.sliceBound, asIntOf, Sem.run_bind, Sem.run_pure, Result.andThen_ok]
      rw [if_pos (by omega)]
      rfl
    · cases h
  · cases h

theorem bounds_run {lo hi mx : Option AV} {lov hiv mxv : Option Value} {len cap l h m : Nat} (hl : bnd 0 lo = some l) (hh : bnd len hi = some h) (hm : bnd cap mx = some m)
    (r1 : ROpt g lo lov) (r2 : ROpt g hi hiv) (r3 : ROpt g mx mxv) (h1 : l ≤ h) (h2 : h ≤ m) (h3 : m ≤ cap) (h4 : mx.isSome = true → hi.isSome = true) :
    (Instr.sliceBounds true len cap lov hiv mxv).run P w = .ok (l, h, m) w := by
  have em : (match mxv with
      | some v => Instr.sliceBound v cap (if true = true then .slice3Acap else .slice3Alen)
      | none => (Pure.pure cap : Sem Nat)).run P w = .ok m w := by
    cases mx with
    | none => cases mxv with
      | none => simp only [bnd, Option.some.injEq] at hm; subst hm; rfl
      | some v => cases r3
    | some x => cases mxv with
      | none => cases r3
      | some v => exact bound_run hm r3 h3
  unfold Instr.sliceBounds
  cases mx with
  | none => cases mxv with
    | some v => cases r3
    | none =>
      simp only [bnd, Option.some.injEq] at hm
      subst hm
      cases hi with
      | none => cases hiv with
        | some v => cases r2
        | none =>
          simp only [bnd, Option.some.injEq] at hh
          subst hh
          cases lo with
          | none => cases lov with
            | some v => cases r1
            | none => simp only [bnd, Option.some.injEq] at hl; subst hl; rfl
          | some y => cases lov with
            | none => cases r1
            | some v =>
              have := bound_run (P := P) (w := w) (c := .sliceB) hl r1 h1
              simp [this]
      | some z => cases hiv with
        | none => cases r2
        | some v =>
          have e2 := bound_run (P := P) (w := w) (c := .sliceAcap) hh r2 h2
          cases lo with
          | none => cases lov with
            | some v => cases r1
            | none => simp only [bnd, Option.some.injEq] at hl; subst hl; simp [e2]
          | some y => cases lov with
            | none => cases r1
            | some v =>
              have := bound_run (P := P) (w := w) (c := .sliceB) hl r1 h1
              simp [e2, this]
  | some x => cases mxv with
    | none => cases r3
    | some xv =>
      have e3 := bound_run (P := P) (w := w) (c := .slice3Acap) hm r3 h3
      cases hi with
      | none => exact absurd (h4 rfl) (by simp)
      | some z => cases hiv with
        | none => cases r2
        | some v =>
          have e2 := bound_run (P := P) (w := w) (c := .slice3B) hh r2 h2
          cases lo with
          | none => cases lov with
            | some v => cases r1
            | none => simp only [bnd, Option.some.injEq] at hl; subst hl; simp [e2, e3]
          | some y => cases lov with
            | none => cases r1
            | some v =>
              have := bound_run (P := P) (w := w) (c := .slice3C) hl r1 h1
              simp [e2, e3, this]

theorem slice_run {t : TypeId} {x a : AV} {xv : Value} {lo hi mx : Option AV} {lov hiv mxv : Option Value} (h : sliceA P t x lo hi mx = some a) (hx : R g x xv)
    (r1 : ROpt g lo lov) (r2 : ROpt g hi hiv) (r3 : ROpt g mx mxv) : ∃ v, (Instr.sliceAt t xv lov hiv mxv).run P w = .ok v w ∧ R g a v := by
  unfold sliceA at h
  split at h
  · rename_i e hu
    split at h
    · rename_i inf hi'
      split at h
      · rename_i es ex
        split at h
        · rename_i l hh m el eh em
          split at h
          · rename_i hif
            obtain ⟨h1, h2, h3, h4, h5⟩ := hif
            cases h
            cases hx with
            | rnil ad =>
              have hb : ∃ M, bnd 0 mx = some M ∧ hh ≤ M ∧ M ≤ 0 := by
                cases mx with
                | none => exact ⟨0, rfl, Nat.le_trans h2 h3, Nat.le_refl _⟩
                | some y => exact ⟨m, (bnd_some _ _ y).trans em, h2, h3⟩
              obtain ⟨M, hM, hM1, hM2⟩ := hb
              have hrun := bounds_run (P := P) (w := w) el eh hM r1 r2 r3 h1 hM1 hM2 h5
              have e1 : M = 0 := by omega
              have e2 : hh = 0 := by omega
              have e3 : l = 0 := by omega
              subst e1; subst e2; subst e3
              refine ⟨.slice ad 0 0, ?_, ?_⟩
              · simp only [Instr.sliceAt, Instr.slice, Sem.run_bind, run_underlying hu, Result.andThen_ok, run_sizeOf _ _ hi', Sem.run_pure]
                have hrun' : Sem.run P (Instr.sliceBounds true 0 0 lov hiv mxv) w = Result.ok (0, 0, 0) w := hrun
                cases ad <;> simp [hrun'] <;> try rfl
              · simpa using R.rnil ad
            | rsl vs hn hl hc hmx hk hf hr =>
              rename_i b o k n cap
              subst hn
              -- the bound that the machine takes
              have hb : ∃ M, bnd cap mx = some M ∧ hh ≤ M ∧ M ≤ cap ∧ (mx.isSome = true → M = m) ∧ (mx = none → M = cap) := by
                cases mx with
                | none => exact ⟨cap, rfl, by omega, Nat.le_refl _, by simp, fun _ => rfl⟩
                | some y =>
                  exact ⟨m, (bnd_some _ _ y).trans em, h2, by omega, fun _ => rfl, by simp⟩
              obtain ⟨M, hM, hM1, hM2, hM3, hM4⟩ := hb
              have hrun := bounds_run (P := P) (w := w) el eh hM r1 r2 r3 h1 hM1 hM2 h5
              have hln : ((es.take hh).drop l).length = hh - l := by simp; omega
              have hR : ∀ (ad : Option Addr), ad = (if M = l then some ⟨b, o, none⟩ else (some ⟨b, o, none⟩ : Option Addr).map (·.add (l * inf.size))) →
                  R g (.rsl ((es.take hh).drop l) (if mx.isSome then m == hh else ex && hh == es.length)) (.slice ad (hh - l) (M - l)) := by
                intro ad had
                have hcap : (if mx.isSome = true then m == hh else ex && hh == es.length) = true → M - l = hh - l := by
                  intro hc'
                  cases mx with
                  | none =>
                    simp only [Option.isSome_none, Bool.false_eq_true, if_false, Bool.and_eq_true, beq_iff_eq] at hc'
                    have := hc hc'.1
                    have := hM4 rfl
                    omega
                  | some y =>
                    simp only [Option.isSome_some, if_true, beq_iff_eq] at hc'
                    have := hM3 rfl
                    omega
                by_cases hlh : l = hh
                · subst hlh
                  have e0 : ((es.take l).drop l) = [] := by simp
                  have hex : ∃ b' o', ad = some ⟨b', o', none⟩ := by
                    subst had
                    split
                    · exact ⟨_, _, rfl⟩
                    · exact ⟨_, _, by rw [Option.map_some, add_none]⟩
                  obtain ⟨b', o', rfl⟩ := hex
                  rw [e0]
                  exact R.rsl (k := k) (fun _ _ => undef) (by simp) (by omega) hcap (by omega) (by simp) (by simp) (by simp)
                · have hsz : k = inf.size := by
                    rcases h4 with h4 | h4
                    · exact absurd h4 hlh
                    · simp only [Option.map_eq_some_iff] at h4
                      obtain ⟨e', he', hs⟩ := h4
                      rw [← hs, hk _ _ he']
                  subst had
                  have hne : ¬ M = l := by omega
                  rw [if_neg hne, Option.map_some, add_none]
                  refine R.rsl (k := k) (fun i j => vs (l + i) j) hln.symm (by omega) hcap (by omega) (fun i e' he' => ?_) (fun i j hi hj => ?_) (fun i e' j c he' hc' => ?_)
                  · rw [List.getElem?_drop, List.getElem?_take] at he'
                    split at he'
                    · exact hk _ _ he'
                    · cases he'
                  · rw [hln] at hi
                    rw [← hsz]
                    have := hf (l + i) j (by omega) hj
                    rw [Nat.add_mul] at this
                    rw [← this]
                    congr 1
                    omega
                  · rw [List.getElem?_drop, List.getElem?_take] at he'
                    split at he'
                    · exact hr _ _ _ _ he' hc'
                    · cases he'
              refine ⟨_, ?_, hR _ rfl⟩
              simp only [Instr.sliceAt, Instr.slice, Sem.run_bind, run_underlying hu, Result.andThen_ok, hrun, run_sizeOf _ _ hi', Sem.run_pure]
          · cases h
        · cases h
      · rename_i b off len
        split at h
        · rename_i l hh el eh
          split at h
          · rename_i hif
            obtain ⟨h1, h2⟩ := hif
            cases hx with
            | msl hph hl hc hmx =>
              rename_i y cap
              have hrun := bounds_run (P := P) (w := w) (g := g) (mx := none) (mxv := mxv) (cap := cap) el eh rfl r1 r2 (by cases mxv <;> first | trivial | exact r3) h1 (by omega) (Nat.le_refl _) (by simp)
              split at h
              · rename_i h0
                subst h0
                cases h
                refine ⟨.slice (some ⟨y, off * g.ks b, none⟩) hh cap, ?_, .msl hph (by omega) hc hmx⟩
                simp only [Instr.sliceAt, Instr.slice, Sem.run_bind, run_underlying hu, Result.andThen_ok, hrun, run_sizeOf _ _ hi', Sem.run_pure, Nat.zero_mul, Nat.sub_zero]
                congr 2
                split
                · rfl
                · rw [Option.map_some, add_none, Nat.add_zero]
              · split at h
                · rename_i h0 hlh
                  cases h
                  subst hlh
                  have hex : ∃ b' o', (if cap = l then some ⟨y, off * g.ks b, none⟩ else (some ⟨y, off * g.ks b, none⟩ : Option Addr).map (·.add (l * inf.size))) = some ⟨b', o', none⟩ := by
                    split
                    · exact ⟨_, _, rfl⟩
                    · exact ⟨_, _, by rw [Option.map_some, add_none]⟩
                  obtain ⟨b', o', hbo⟩ := hex
                  refine ⟨.slice (some ⟨b', o', none⟩) (l - l) (cap - l), ?_, R.rsl (k := 0) (fun _ _ => undef) (by simp) (by omega) (by simp) (by omega) (by simp) (by simp) (by simp)⟩
                  simp only [Instr.sliceAt, Instr.slice, Sem.run_bind, run_underlying hu, Result.andThen_ok, hrun, run_sizeOf _ _ hi', Sem.run_pure, hbo]
                · cases h
          · cases h
        · cases h
      · split at h
        · rename_i l hh el eh
          split at h
          · rename_i hif
            obtain ⟨h1, h2⟩ := hif
            cases h
            cases hx
            have hrun := bounds_run (P := P) (w := w) (g := g) (mx := none) (mxv := mxv) (cap := 0) el eh rfl r1 r2 (by cases mxv <;> first | trivial | exact r3) h1 h2 (Nat.le_refl _) (by simp)
            have e2 : hh = 0 := by omega
            have e3 : l = 0 := by omega
            subst e2; subst e3
            refine ⟨.slice none 0 0, ?_, .val _⟩
            simp only [Instr.sliceAt, Instr.slice, Sem.run_bind, run_underlying hu, Result.andThen_ok, hrun, run_sizeOf _ _ hi', Sem.run_pure]
            simp
          · cases h
        · cases h
      · cases h
    · cases h
  · cases h

end Go.Proofs.Ytphfdbmbdaninaa.Ab
namespace Go.Proofs.Ytphfdbmbdaninaa.Ab
open Go Go.RowKit

variable {w : World} {P : Program}

def eqFs (rec : TypeId → Value → Value → Option Bool) (P : Program) (xs ys : Array Value) : List Field → Option Bool
  | [] => some true
  | f :: fs => if f.name ≠ "_" then
      match pureRun P (part f.type xs f.offset), pureRun P (part f.type ys f.offset) with
      | some a, some b => match rec f.type a b, eqFs rec P xs ys fs with
        | some p, some q => some (p && q)
        | _, _ => none
      | _, _ => none
    else eqFs rec P xs ys fs

def eqB (P : Program) : Nat → TypeId → Value → Value → Option Bool
  | 0, _, _, _ => none
  | d + 1, t, x, y => match P.underlying t, x, y with
    | some .bool, .bool a, .bool b => some (a == b)
    | some (.int _), .int k a, .int k' b => if k = k' then some (a == b) else none
    | some .string, .string a, .string b => some (a == b)
    | some (.struct fs), .agg xs, .agg ys => if P.stoodInHeld t = false then eqFs (eqB P d) P xs ys fs.toList else none
    | _, _, _ => none

theorem eqFs_run {rec : TypeId → Value → Value → Option Bool} {d : Nat} {xs ys : Array Value} (h : ∀ t x y r, rec t x y = some r → (Op.equalIn d t x y).run P w = .ok r w) :
    ∀ (fs : List Field) (r : Bool), eqFs rec P xs ys fs = some r → (Op.eqFields d xs ys fs).run P w = .ok r w
  | [], r, hr => by
    cases hr
    rfl
  | f :: fs, r, hr => by
    unfold eqFs at hr
    unfold Op.eqFields
    split at hr
    · rename_i hn
      rw [if_pos hn]
      split at hr
      · rename_i a b ha hb
        split at hr
        · rename_i p q hp hq
          cases hr
          simp only [Sem.run_bind, pureRun_run ha w, pureRun_run hb w, h _ _ _ _ hp, Result.andThen_ok]
          cases p
          · simp
          · simpa using eqFs_run h fs q hq
        · cases hr
      · cases hr
    · rename_i hn
      rw [if_neg hn]
      exact eqFs_run h fs r hr

theorem eqB_run : ∀ (d : Nat) (t : TypeId) (x y : Value) (r : Bool), eqB P d t x y = some r → (Op.equalIn d t x y).run P w = .ok r w
  | 0, t, x, y, r, h => by cases h
  | d + 1, t, x, y, r, h => by
    unfold eqB at h
    split at h
    · rename_i hu
      cases h
      simp [Op.equalIn, run_underlying hu]
    · rename_i hu
      split at h
      · rename_i hk
        cases h
        simp [Op.equalIn, run_underlying hu, hk]
      · cases h
    · rename_i hu
      cases h
      simp [Op.equalIn, run_underlying hu]
    · rename_i fs xs ys hu
      split at h
      · rename_i hs
        have hf : P.fieldsOf t = fs := by simp [Program.fieldsOf, hu]
        rw [run_equalIn_struct (P := P) w d t xs ys (by rw [hf]; exact hu) hs, hf]
        exact eqFs_run (fun t x y r h => eqB_run d t x y r h) _ _ h
      · cases h
    · cases h

end Go.Proofs.Ytphfdbmbdaninaa.Ab
namespace Go.Proofs.Ytphfdbmbdaninaa.Ab
open Go Go.RowKit

variable {base : Nat} {w0 w w' : World} {g : Gh} {H : Hp} {P : Program}

def evA (T : Env) : Operand → AV
  | .tmp t => T t
  | .const v => .val v
  | .global x => .val (.pointer (some ⟨x, 0, none⟩))
  | .func f => .fn (.func f) []

theorem evA_rel {n : Nat} {T : Env} {a : Act} (h : TRel g n T a.tmps) (x : Operand) : R g (evA T x) (a.eval x) := by
  cases x with
  | tmp t => exact h.slot t
  | const v => exact .val v
  | global x => exact .val _
  | func f => exact .fn (by simp) (by simp) (by simp)

def intA (P : Program) (op : BinOp) (t : TypeId) (k : IntKind) (m : Int) (k' : IntKind) (n : Int) : Option AV :=
  match op with
  | .add => if k = k' then some (.val (.int k (k.wrap (m + n)))) else none
  | .sub => if k = k' then some (.val (.int k (k.wrap (m - n)))) else none
  | .mul => if k = k' then some (.val (.int k (k.wrap (m * n)))) else none
  | .quo => if k = k' ∧ n ≠ 0 then some (.val (.int k (k.wrap (m.tdiv n)))) else none
  | .rem => if k = k' ∧ n ≠ 0 then some (.val (.int k (m.tmod n))) else none
  | .eql => if k = k' then some (.val (.bool (m == n))) else none
  | .neq => if k = k' then some (.val (.bool (m != n))) else none
  | .lss => if k = k' then some (.val (.bool (decide (m < n)))) else none
  | .leq => if k = k' then some (.val (.bool (decide (m ≤ n)))) else none
  | .gtr => if k = k' then some (.val (.bool (decide (m > n)))) else none
  | .geq => if k = k' then some (.val (.bool (decide (m ≥ n)))) else none
  | _ => (pureRun P (binOp op t (.int k m) (.int k' n))).map .val

theorem intA_run {op : BinOp} {t : TypeId} {k k' : IntKind} {m n : Int} {a : AV} (h : intA P op t k m k' n = some a) : ∃ v, (binOp op t (.int k m) (.int k' n)).run P w = .ok v w ∧ a = .val v := by
  unfold intA at h
  split at h
  all_goals first
    | (simp only [Option.map_eq_some_iff] at h
       obtain ⟨v, hv, rfl⟩ := h
       exact ⟨v, pureRun_run hv w, rfl⟩)
    | (split at h
       · rename_i hk
         cases h
         first
          | (subst hk; exact ⟨_, by simp [binOp, Op.intArith, Op.intCmp], rfl⟩)
          | (obtain ⟨rfl, hn⟩ := hk; exact ⟨_, by simp [binOp, Op.intDiv, hn], rfl⟩)
       · cases h)

theorem eqGuard_int (op : BinOp) (t : TypeId) (x y : Operand) (k k' : IntKind) (m n : Int) : (eqGuard op t x y (.int k m) (.int k' n)).run P w = .ok () w := by
  unfold eqGuard; cases op <;> rfl

/-- has a value an address, so that it is no nil? -/
def AV.some? : AV → Bool
  | .rptr .. => true
  | .mptr .. => true
  | .rsl (_ :: _) _ => true
  | .msl .. => true
  | .mp .. => true
  | .fn .. => true
  | _ => false

def isNil : AV → Bool
  | .val (.pointer none) => true
  | .val (.slice none _ _) => true
  | .val (.map none) => true
  | .val .nilFunc => true
  | _ => false

/-- may values of this type be compared with nil so? -/
def nilKind (P : Program) (t : TypeId) (a : AV) : Bool :=
  match P.underlying t, a with
  | some (.pointer _), .rptr .. => true
  | some (.pointer _), .mptr .. => true
  | some (.slice _), .rsl (_ :: _) _ => true
  | some (.slice _), .msl .. => true
  | some (.map _ _), .mp .. => true
  | some (.func _ _ _), .fn .. => true
  | _, _ => false

def nilOf (P : Program) (t : TypeId) (a : AV) : Bool :=
  match P.underlying t, a with
  | some (.pointer _), .val (.pointer none) => true
  | some (.slice _), .val (.slice none _ _) => true
  | some (.map _ _), .val (.map none) => true
  | some (.func _ _ _), .val .nilFunc => true
  | _, _ => false

def aggEq (P : Program) (t : TypeId) (u v : Value) : Option Bool :=
  match u, v with
  | .agg xs, .agg ys => if P.eqGuardType P.depth t = false then eqB P Op.maxDepth t (.agg xs) (.agg ys) else none
  | _, _ => none

theorem aggEq_run {t : TypeId} {x y : Operand} {u v : Value} {r : Bool} (h : aggEq P t u v = some r) :
    (do eqGuard .eql t x y u v; binOp .eql t u v : Sem Value).run P w = .ok (.bool r) w ∧ (do eqGuard .neq t x y u v; binOp .neq t u v : Sem Value).run P w = .ok (.bool (!r)) w := by
  unfold aggEq at h
  split at h
  · rename_i xs ys
    split at h
    · rename_i hg
      have he := eqB_run (w := w) _ _ _ _ _ h
      have g1 : (eqGuard .eql t x y (.agg xs) (.agg ys)).run P w = .ok () w := by simp [eqGuard, hg]
      have g2 : (eqGuard .neq t x y (.agg xs) (.agg ys)).run P w = .ok () w := by simp [eqGuard, hg]
      constructor
      · rw [Sem.run_bind, g1]
        simp [binOp, Op.equal, he]
      · rw [Sem.run_bind, g2]
        simp [binOp, Op.equal, he]
    · cases h
  · cases h

def binA (P : Program) (op : BinOp) (t : TypeId) (x y : Operand) (a b : AV) : Option AV :=
  match a, b with
  | .val (.int k m), .val (.int k' n) => intA P op t k m k' n
  | a, b =>
    match op with
    | .eql => if (nilKind P t a && nilOf P t b) || (nilOf P t a && nilKind P t b) then some (.val (.bool false)) else
        match a.flat, b.flat with
        | some u, some v => match aggEq P t u v with
          | some r => some (.val (.bool (r)))
          | none => (pureRun P (do eqGuard .eql t x y u v; binOp .eql t u v)).map .val
        | _, _ => none
    | .neq => if (nilKind P t a && nilOf P t b) || (nilOf P t a && nilKind P t b) then some (.val (.bool true)) else
        match a.flat, b.flat with
        | some u, some v => match aggEq P t u v with
          | some r => some (.val (.bool (!r)))
          | none => (pureRun P (do eqGuard .neq t x y u v; binOp .neq t u v)).map .val
        | _, _ => none
    | op => match a.flat, b.flat with
        | some u, some v => (pureRun P (do eqGuard op t x y u v; binOp op t u v)).map .val
        | _, _ => none

theorem equal_nil {t : TypeId} {c d : AV} {p q : Value} (hc : R g c p) (hd : R g d q) (h1 : nilKind P t c = true) (h2 : nilOf P t d = true) :
    (Op.equal t p q).run P w = .ok false w ∧ (Op.equal t q p).run P w = .ok false w ∧
    (∀ op x y, (op = .eql ∨ op = .neq) → (eqGuard op t x y p q).run P w = .ok () w ∧ (eqGuard op t x y q p).run P w = .ok () w) ∧
    (binOp .eql t p q = (do pure (.bool (← Op.equal t p q))) ∧ binOp .eql t q p = (do pure (.bool (← Op.equal t q p)))) ∧
    (binOp .neq t p q = (do pure (.bool (!(← Op.equal t p q)))) ∧ binOp .neq t q p = (do pure (.bool (!(← Op.equal t q p))))) := by
  have e0 : ∀ p q, Op.equal t p q = Op.equalIn (9999 + 1) t p q := fun _ _ => rfl
  unfold nilKind at h1
  unfold nilOf at h2
  split at h1 <;> first
    | (cases h1; done)
    | (rename_i hu
       rw [hu] at h2
       split at h2 <;> first
         | (cases h2; done)
         | (rename_i he; cases he; done)
         | (rename_i he
            cases he
            first
              | (cases hd
                 cases hc <;> (refine ⟨?_, ?_, ?_, ⟨rfl, rfl⟩, ⟨rfl, rfl⟩⟩
                               · rw [e0, Op.equalIn]; simp only [Sem.run_bind, run_underlying hu, Result.andThen_ok]; try rfl
                               · rw [e0, Op.equalIn]; simp only [Sem.run_bind, run_underlying hu, Result.andThen_ok]; try rfl
                               · rintro op x y (rfl | rfl) <;> exact ⟨rfl, rfl⟩))))

theorem nil_run {t : TypeId} {a b : AV} {u v : Value} (ha : R g a u) (hb : R g b v) (h : ((nilKind P t a && nilOf P t b) || (nilOf P t a && nilKind P t b)) = true) (op : BinOp) (x y : Operand) (ho : op = .eql ∨ op = .neq) :
    (do eqGuard op t x y u v; binOp op t u v : Sem Value).run P w = .ok (.bool (op == .neq)) w := by
  simp only [Bool.or_eq_true, Bool.and_eq_true] at h
  rcases h with ⟨h1, h2⟩ | ⟨h1, h2⟩
  · obtain ⟨e1, e2, e3, ⟨e4, e5⟩, ⟨e6, e7⟩⟩ := equal_nil (w := w) ha hb h1 h2
    have := (e3 op x y ho).1
    rcases ho with rfl | rfl
    · rw [Sem.run_bind, this, e4]; simp only [Result.andThen_ok, Sem.run_bind, e1]; rfl
    · rw [Sem.run_bind, this, e6]; simp only [Result.andThen_ok, Sem.run_bind, e1]; rfl
  · obtain ⟨e1, e2, e3, ⟨e4, e5⟩, ⟨e6, e7⟩⟩ := equal_nil (w := w) hb ha h2 h1
    have := (e3 op x y ho).2
    rcases ho with rfl | rfl
    · rw [Sem.run_bind, this, e5]; simp only [Result.andThen_ok, Sem.run_bind, e2]; rfl
    · rw [Sem.run_bind, this, e7]; simp only [Result.andThen_ok, Sem.run_bind, e2]; rfl

theorem binA_run {op : BinOp} {t : TypeId} {x y : Operand} {a b r : AV} {u v : Value} (h : binA P op t x y a b = some r) (ha : R g a u) (hb : R g b v) :
    ∃ z, (do eqGuard op t x y u v; binOp op t u v : Sem Value).run P w = .ok z w ∧ r = .val z := by
  have flats : ∀ (op : BinOp), (match a.flat, b.flat with
        | some u, some v => (pureRun P (do eqGuard op t x y u v; binOp op t u v)).map AV.val
        | _, _ => none) = some r → ∃ z, (do eqGuard op t x y u v; binOp op t u v : Sem Value).run P w = .ok z w ∧ r = .val z := by
    intro op h
    split at h
    · rename_i u' v' hu hv
      simp only [Option.map_eq_some_iff] at h
      obtain ⟨z, hz, rfl⟩ := h
      have e1 := ha.flat u' hu
      have e2 := hb.flat v' hv
      subst e1; subst e2
      exact ⟨z, pureRun_run hz w, rfl⟩
    · cases h
  unfold binA at h
  split at h
  · cases ha; cases hb
    obtain ⟨z, hz, rfl⟩ := intA_run (w := w) h
    refine ⟨z, ?_, rfl⟩
    rw [Sem.run_bind, eqGuard_int]
    exact hz
  · split at h
    · split at h
      · rename_i hn
        cases h
        exact ⟨_, nil_run ha hb hn .eql x y (.inl rfl), rfl⟩
      · split at h
        · rename_i u' v' hu hv
          split at h
          · rename_i q hq
            cases h
            have e1 := ha.flat u' hu
            have e2 := hb.flat v' hv
            subst e1; subst e2
            exact ⟨_, (aggEq_run hq).1, rfl⟩
          · exact flats .eql (by rw [hu, hv]; exact h)
        · cases h
    · split at h
      · rename_i hn
        cases h
        exact ⟨_, nil_run ha hb hn .neq x y (.inr rfl), rfl⟩
      · split at h
        · rename_i u' v' hu hv
          split at h
          · rename_i q hq
            cases h
            have e1 := ha.flat u' hu
            have e2 := hb.flat v' hv
            subst e1; subst e2
            exact ⟨_, (aggEq_run hq).2, rfl⟩
          · exact flats .neq (by rw [hu, hv]; exact h)
        · cases h
    · exact flats _ h

def unA (P : Program) (op : UnOp) (a : AV) : Option AV :=
  match op, a with
  | .neg, .val (.int k n) => some (.val (.int k (k.wrap (0 - n))))
  | .not, .val (.bool b) => some (.val (.bool !b))
  | op, a => match a.flat with
    | some v => (pureRun P (Op.unary op v)).map .val
    | none => none

theorem unA_run {op : UnOp} {a r : AV} {u : Value} (h : unA P op a = some r) (ha : R g a u) : ∃ z, (Op.unary op u).run P w = .ok z w ∧ r = .val z := by
  unfold unA at h
  split at h
  · cases ha; cases h; exact ⟨_, rfl, rfl⟩
  · cases ha; cases h; exact ⟨_, rfl, rfl⟩
  · split at h
    · rename_i v hv
      simp only [Option.map_eq_some_iff] at h
      obtain ⟨z, hz, rfl⟩ := h
      have e1 := ha.flat v hv
      subst e1
      exact ⟨z, pureRun_run hz w, rfl⟩
    · cases h

def convA (P : Program) (src dst : TypeId) (a : AV) : Option AV :=
  match P.underlying src, P.underlying dst, a with
  | some (.int _), some (.int k), .val (.int _ n) => some (.val (.int k (k.wrap n)))
  | _, _, a => match a.flat with
    | some v => (pureRun P (convert src dst v)).map .val
    | none => none

theorem convA_run {src dst : TypeId} {a r : AV} {u : Value} (h : convA P src dst a = some r) (ha : R g a u) : ∃ z, (convert src dst u).run P w = .ok z w ∧ r = .val z := by
  unfold convA at h
  split at h
  · rename_i k k' n h1 h2
    cases ha; cases h
    exact ⟨_, by simp [convert, run_underlying h1, run_underlying h2, Conv.intToInt], rfl⟩
  · split at h
    · rename_i v hv
      simp only [Option.map_eq_some_iff] at h
      obtain ⟨z, hz, rfl⟩ := h
      have e1 := ha.flat v hv
      subst e1
      exact ⟨z, pureRun_run hz w, rfl⟩
    · cases h

/-- max, min of ints -/
def maxF (mx : Bool) (k : IntKind) (x : Int) : List AV → Option AV
  | [] => some (.val (.int k x))
  | .val (.int _ y) :: rest => maxF mx k (if mx then (if y > x then y else x) else (if y < x then y else x)) rest
  | _ => none

def maxA (mx : Bool) : List AV → Option AV
  | .val (.int k x) :: rest => maxF mx k x rest
  | _ => none

theorem maxF_run (mx : Bool) (k : IntKind) : ∀ (as : List AV) (us : List Value) (x : Int) (r : AV), maxF mx k x as = some r → as.length = us.length → (∀ (i : Nat) (a : AV) (u : Value), as[i]? = some a → us[i]? = some u → R g a u) →
    ∃ z, (us.foldlM (if mx then Builtin.max2 else Builtin.min2) (.int k x)).run P w = .ok z w ∧ r = .val z
  | [], us, x, r, h, hl, hr => by
    cases us with
    | nil => simp only [maxF, Option.some.injEq] at h; exact ⟨_, rfl, h.symm⟩
    | cons u us => simp at hl
  | a :: rest, us, x, r, h, hl, hr => by
    cases us with
    | nil => simp at hl
    | cons u us =>
      unfold maxF at h
      split at h
      · rename_i e; cases e
      · rename_i k' y rest' e
        cases e
        have h0 := hr 0 _ u rfl rfl
        cases h0
        obtain ⟨z, hz, rfl⟩ := maxF_run mx k rest us _ r h (by simpa using hl) (fun i a u ha hu => hr (i + 1) a u (by simpa using ha) (by simpa using hu))
        refine ⟨z, ?_, rfl⟩
        rw [← hz, List.foldlM_cons]
        cases mx <;> rfl
      · cases h

theorem maxA_run (mx : Bool) (as : List AV) (us : List Value) (r : AV) (aT : Array TypeId) (ty : TypeId) (h : maxA mx as = some r) (hl : as.length = us.length) (hr : ∀ (i : Nat) (a : AV) (u : Value), as[i]? = some a → us[i]? = some u → R g a u) :
    ∃ z, (if mx then Builtin.max_ aT ty us.toArray else Builtin.min_ aT ty us.toArray).run P w = .ok z w ∧ r = .val z := by
  unfold maxA at h
  split at h
  · rename_i k x rest
    cases us with
    | nil => simp at hl
    | cons u us =>
      have h0 := hr 0 _ u rfl rfl
      cases h0
      obtain ⟨z, hz, rfl⟩ := maxF_run (P := P) (w := w) mx k rest us x r h (by simpa using hl) (fun i a u ha hu => hr (i + 1) a u (by simpa using ha) (by simpa using hu))
      refine ⟨z, ?_, rfl⟩
      rw [← hz]
      cases mx <;> rfl
  · cases h

end Go.Proofs.Ytphfdbmbdaninaa.Ab
namespace Go.Proofs.Ytphfdbmbdaninaa.Ab
open Go Go.RowKit

variable {base : Nat} {w0 w w' : World} {g : Gh} {H : Hp} {P : Program}

/-- a value as an abstract one -/
def unV : Value → AV
  | .agg cs => .agg (cs.toList.map .val)
  | v => .val v

theorem unV_rel (v : Value) : R g (unV v) v := by
  cases v <;> first
    | exact .val _
    | (refine .agg (by simp) fun i c u hc hu => ?_
       rw [List.getElem?_map] at hc
       simp only [Array.getElem?_toList] at hc
       rw [hu] at hc
       cases hc
       exact .val _)

def zeroV (P : Program) (t : TypeId) : Option Value :=
  match P.info? t with
  | some i => i.zero
  | none => none

def intKey (P : Program) (t : TypeId) : Option IntKind :=
  match P.underlying t with
  | some (.int k) => some k
  | _ => none

/-- where a key stands -/
def findA (k : IntKind) (x : Int) : List (AV × AV) → Nat → Option (Option (Nat × AV))
  | [], _ => some none
  | (.val (.int k' y), v) :: es, i => if k = k' then (if x = y then some (some (i, v)) else findA k x es (i + 1)) else none
  | _, _ => none

def FoundR (g : Gh) (kd k : IntKind) (x : Int) (ms : List MapEntry) (i : Nat) : Option (Nat × AV) → Prop
  | none => Instr.findNow (.int kd) (.int k x) ms i = some none
  | some (j, v) => ∃ m, Instr.findNow (.int kd) (.int k x) ms i = some (some (j, m.val)) ∧ R g v m.val ∧ i ≤ j ∧ ms[j - i]? = some m ∧ m.key = .int k x

theorem findA_run {kd k : IntKind} {x : Int} : ∀ (es : List (AV × AV)) (ms : List MapEntry) (i : Nat) (r : Option (Nat × AV)), es.length = ms.length →
    (∀ (i : Nat) (e : AV × AV) (m : MapEntry), es[i]? = some e → ms[i]? = some m → R g e.1 m.key ∧ R g e.2 m.val) → findA k x es i = some r → FoundR g kd k x ms i r
  | [], ms, i, r, hl, _, h => by
    cases ms with
    | cons _ _ => simp at hl
    | nil => unfold findA at h; cases h; rfl
  | (kv, v) :: es, ms, i, r, hl, hr, h => by
    cases ms with
    | nil => simp at hl
    | cons m ms =>
      obtain ⟨h1, h2⟩ := hr 0 _ _ rfl rfl
      simp only at h1 h2
      cases kv with
      | val u => cases u with
        | int k' y =>
          simp only [findA] at h
          generalize hk : m.key = mk at h1
          cases h1
          split at h
          · rename_i hkk
            subst hkk
            split at h
            · rename_i hxy
              subst hxy
              cases h
              refine ⟨m, ?_, h2, Nat.le_refl _, by simp, hk⟩
              simp [Instr.findNow, Instr.sameNow, hk]
            · rename_i hxy
              have hb : (x == y) = false := by simpa using hxy
              have ih := findA_run (kd := kd) es ms (i + 1) r (by simpa using hl) (fun i e m' he hm => hr (i + 1) e m' (by simpa using he) (by simpa using hm)) h
              cases r with
              | none =>
                unfold FoundR at ih ⊢
                simp only [Instr.findNow, Instr.sameNow, hk, if_true, hb]
                exact ih
              | some jv =>
                obtain ⟨j', u⟩ := jv
                obtain ⟨m', e1, e2, e3, e4, e5⟩ := ih
                refine ⟨m', ?_, e2, by omega, ?_, e5⟩
                · simp only [Instr.findNow, Instr.sameNow, hk, if_true, hb]
                  exact e1
                · rw [show j' - i = (j' - (i + 1)) + 1 by omega]
                  simpa using e4
          · cases h
        | _ => simp [findA] at h
      | _ => simp [findA] at h

/-! ### the marks of the entries -/
open Go.MapKept (Stamped)

theorem stamped_nil : Stamped #[] 0 := ⟨by simp, by simp, by simp⟩

theorem stamped_push {ms : Array MapEntry} {c : Nat} {k v : Value} (h : Stamped ms c) (hk : ∀ m ∈ ms.toList, m.key ≠ k) : Stamped (ms.push { key := k, val := v, born := c }) (c + 1) := by
  obtain ⟨h1, h2, h3⟩ := h
  refine ⟨fun x hx => ?_, ?_, ?_⟩
  · simp only [Array.toList_push, List.mem_append, List.mem_singleton] at hx
    rcases hx with hx | rfl
    · have := h1 x hx; omega
    · show c < c + 1
      omega
  · simp only [Array.toList_push, List.map_append, List.map_cons, List.map_nil]
    refine List.nodup_append.2 ⟨h2, by simp, fun a ha b hb => ?_⟩
    simp only [List.mem_singleton] at hb
    subst hb
    obtain ⟨x, hx, rfl⟩ := List.mem_map.1 ha
    have := h1 x hx
    omega
  · simp only [Array.toList_push, List.map_append, List.map_cons, List.map_nil]
    refine List.nodup_append.2 ⟨h3, by simp, fun a ha b hb => ?_⟩
    simp only [List.mem_singleton] at hb
    subst hb
    obtain ⟨x, hx, rfl⟩ := List.mem_map.1 ha
    exact hk x hx

theorem stamped_modify {ms : Array MapEntry} {c i : Nat} {k v : Value} {m : MapEntry} (h : Stamped ms c) (hm : ms[i]? = some m) (hk : m.key = k) : Stamped (ms.modify i fun e => { e with key := k, val := v }) c := by
  have e1 : (ms.modify i fun e => { e with key := k, val := v }).toList.map (·.born) = ms.toList.map (·.born) := by
    refine List.ext_getElem? fun j => ?_
    simp only [List.getElem?_map, Array.getElem?_toList, Array.getElem?_modify]
    split
    · rename_i hij; subst hij; rw [hm]; rfl
    · rfl
  have e2 : (ms.modify i fun e => { e with key := k, val := v }).toList.map (·.key) = ms.toList.map (·.key) := by
    refine List.ext_getElem? fun j => ?_
    simp only [List.getElem?_map, Array.getElem?_toList, Array.getElem?_modify]
    split
    · rename_i hij; subst hij; rw [hm]; simp [hk]
    · rfl
  obtain ⟨h1, h2, h3⟩ := h
  refine ⟨fun x hx => ?_, by rw [e1]; exact h2, by rw [e2]; exact h3⟩
  have : x.born ∈ (ms.modify i fun e => { e with key := k, val := v }).toList.map (·.born) := List.mem_map_of_mem hx
  rw [e1] at this
  obtain ⟨y, hy, e⟩ := List.mem_map.1 this
  have := h1 y hy
  omega

theorem stamped_erase {ms : Array MapEntry} {c i : Nat} (h : Stamped ms c) : Stamped (ms.eraseIdxIfInBounds i) c := by
  have hs : (ms.eraseIdxIfInBounds i).toList.Sublist ms.toList := by
    unfold Array.eraseIdxIfInBounds
    split
    · rw [Array.toList_eraseIdx]; exact List.eraseIdx_sublist ..
    · exact List.Sublist.refl _
  obtain ⟨h1, h2, h3⟩ := h
  exact ⟨fun x hx => h1 x (hs.subset hx), h2.sublist (hs.map _), h3.sublist (hs.map _)⟩

theorem findA_none {k : IntKind} {x : Int} : ∀ (es : List (AV × AV)) (ms : List MapEntry) (i : Nat), es.length = ms.length →
    (∀ (i : Nat) (e : AV × AV) (m : MapEntry), es[i]? = some e → ms[i]? = some m → R g e.1 m.key ∧ R g e.2 m.val) → findA k x es i = some none → ∀ m ∈ ms, m.key ≠ .int k x
  | [], ms, i, hl, _, h => by
    cases ms with
    | cons _ _ => simp at hl
    | nil => simp
  | (kv, v) :: es, ms, i, hl, hr, h => by
    cases ms with
    | nil => simp at hl
    | cons m ms =>
      obtain ⟨h1, h2⟩ := hr 0 _ _ rfl rfl
      simp only at h1 h2
      cases kv with
      | val u => cases u with
        | int k' y =>
          simp only [findA] at h
          generalize hk : m.key = mk at h1
          cases h1
          split at h
          · rename_i hkk
            subst hkk
            split at h
            · cases h
            · rename_i hxy
              intro m' hm'
              rcases List.mem_cons.1 hm' with rfl | hm'
              · rw [hk]
                intro e
                cases e
                exact hxy rfl
              · exact findA_none es ms (i + 1) (by simpa using hl) (fun i e m' he hm => hr (i + 1) e m' (by simpa using he) (by simpa using hm)) h m' hm'
          · cases h
        | _ => simp [findA] at h
      | _ => simp [findA] at h

theorem checkKey_int {kt : TypeId} {kd : IntKind} (hu : P.underlying kt = some (.int kd)) (e : Bool) (v : Value) : (Instr.checkKey e 10000 kt v).run P w = .ok () w := by
  unfold Instr.checkKey
  simp only [Sem.run_bind, run_underlying hu, Result.andThen_ok]
  cases v <;> rfl

theorem findKey_int {kt : TypeId} {kd : IntKind} (hu : P.underlying kt = some (.int kd)) {v : Value} {ms : List MapEntry} {r : Option (Nat × Value)} (h : Instr.findNow (.int kd) v ms 0 = some r) : (Instr.findKey kt v ms).run P w = .ok r w := by
  unfold Instr.findKey
  simp only [Sem.run_bind, run_underlying hu, Result.andThen_ok, h, Sem.run_pure]

theorem intKey_of {kt : TypeId} {k : IntKind} (h : intKey P kt = some k) : P.underlying kt = some (.int k) := by
  unfold intKey at h
  split at h
  · rename_i k' hu; cases h; exact hu
  · cases h

theorem run_getMap {x : Nat} {ms : Array MapEntry} {c : Nat} (h : w.heap[x]? = some (.map ms c)) : (getObj x).run P w = .ok (.map ms c) w := by
  simp [getObj, Sem.run, h]

theorem run_setMap {x : Nat} {ms : Array MapEntry} {c : Nat} {o : Obj} (h : w.heap[x]? = some (.map ms c)) : (setObj x o).run P w = .ok () (w.putObj x o) := by
  simp [setObj, Sem.run, h, World.putObj]

theorem grownBy_putM (w : World) (x : Nat) (o : Obj) : w.grownBy (w.putObj x o) (some x) :=
  ⟨rfl, rfl, rfl, by simp [World.putObj], fun k _ hk => by simp only [World.putObj]; rw [Array.getElem?_setIfInBounds_ne (fun e => hk (by rw [e]))]⟩

theorem heap_putM {w : World} {x : Nat} {o : Obj} (h : x < w.heap.size) : (w.putObj x o).heap[x]? = some o := by
  simp [World.putObj, h]

/-- the entries of a map -/
def entsA (x : AV) (H : Hp) : Option (List (AV × AV)) :=
  match x with
  | .val (.map none) => some []
  | .mp b => match H[b]? with
    | some (.amap es) => some es
    | _ => none
  | _ => none

def lookA (P : Program) (t : TypeId) (x k : AV) (ok : Bool) (H : Hp) : Option AV :=
  match P.underlying t with
  | some (.map kt et) => match intKey P kt, zeroV P et, k, entsA x H with
    | some _, some z, .val (.int kk kx), some es => match findA kk kx es 0 with
      | some (some (_, v)) => some (if ok then .tup [v, .val (.bool true)] else v)
      | some none => some (if ok then .tup [unV z, .val (.bool false)] else unV z)
      | none => none
    | _, _, _, _ => none
  | _ => none

theorem run_zeroV {t : TypeId} {z : Value} (h : zeroV P t = some z) : (zeroValue t).run P w = .ok z w := by
  unfold zeroV at h
  split at h
  · rename_i i hi
    simp [zeroValue, typeInfo, hi, h]
  · cases h

theorem tup2_rel {a b : AV} {u v : Value} (h1 : R g a u) (h2 : R g b v) : R g (.tup [a, b]) (.tuple #[u, v]) := by
  refine .tup rfl fun i c x hc hx => ?_
  match i with
  | 0 => simp at hc hx; subst hc; subst hx; exact h1
  | 1 => simp at hc hx; subst hc; subst hx; exact h2
  | n + 2 => simp at hc

theorem lookA_run (S : Sim base w0 g H w) {t : TypeId} {x k r : AV} {xv kv : Value} {ok : Bool} (h : lookA P t x k ok H = some r) (hx : R g x xv) (hk : R g k kv) : ∃ v, (Instr.lookup t xv kv ok).run P w = .ok v w ∧ R g r v := by
  unfold lookA at h
  split at h
  · rename_i kt et hu
    split at h
    · rename_i kd z kk kx es hkd hz he
      cases hk
      have hki := intKey_of hkd
      unfold entsA at he
      split at he
      · cases he
        cases hx
        unfold findA at h
        cases h
        have e1 : Instr.findNow (.int kd) (.int kk kx) ([] : List MapEntry) 0 = some none := rfl
        refine ⟨if ok then .tuple #[z, .bool false] else z, ?_, ?_⟩
        · unfold Instr.lookup
          simp only [Sem.run_bind, run_underlying hu, Result.andThen_ok, Sem.run_pure, checkKey_int hki, findKey_int hki e1, run_zeroV hz]
        · cases ok with
          | true => exact tup2_rel (unV_rel z) (.val _)
          | false => exact unV_rel z
      · rename_i b
        split at he
        · rename_i es' hb
          cases he
          cases hx with
          | mp hp =>
            rename_i px
            obtain ⟨y, o, q1, q2, q3⟩ := S.obj b _ hb (by simp)
            rw [hp] at q1; cases q1
            cases q3 with
            | amap hl hr hst =>
              rename_i ms clock
              have hl' : es.length = ms.toList.length := by simpa using hl
              have hr' : ∀ (i : Nat) (e : AV × AV) (m : MapEntry), es[i]? = some e → ms.toList[i]? = some m → R g e.1 m.key ∧ R g e.2 m.val := fun i e m he hm => hr i e m he (by simpa using hm)
              split at h
              · rename_i j v hf
                cases h
                obtain ⟨m, e1, e2, e3, e4, e5⟩ := findA_run (kd := kd) es ms.toList 0 _ hl' hr' hf
                refine ⟨if ok then .tuple #[m.val, .bool true] else m.val, ?_, ?_⟩
                · unfold Instr.lookup
                  simp only [Sem.run_bind, run_underlying hu, Result.andThen_ok, Sem.run_pure, checkKey_int hki, run_getMap q2, findKey_int hki e1]
                · cases ok with
                  | true => exact tup2_rel e2 (.val _)
                  | false => exact e2
              · rename_i hf
                cases h
                have e1 := findA_run (kd := kd) es ms.toList 0 _ hl' hr' hf
                refine ⟨if ok then .tuple #[z, .bool false] else z, ?_, ?_⟩
                · unfold Instr.lookup
                  simp only [Sem.run_bind, run_underlying hu, Result.andThen_ok, Sem.run_pure, checkKey_int hki, run_getMap q2, findKey_int hki e1, run_zeroV hz]
                · cases ok with
                  | true => exact tup2_rel (unV_rel z) (.val _)
                  | false => exact unV_rel z
              · cases h
        · cases he
      · cases he
    · cases h
  · cases h

def updA (P : Program) (t : TypeId) (x k v : AV) (H : Hp) : Option Hp :=
  match P.underlying t, x, k with
  | some (.map kt _), .mp b, .val (.int kk kx) => match intKey P kt, H[b]? with
    | some _, some (.amap es) => match findA kk kx es 0 with
      | some (some (i, _)) => some (H.set b (.amap (es.set i (.val (.int kk kx), v))))
      | some none => some (H.set b (.amap (es ++ [(.val (.int kk kx), v)])))
      | none => none
    | _, _ => none
  | _, _, _ => none

theorem updA_run (S : Sim base w0 g H w) {t : TypeId} {x k v : AV} {xv kv vv : Value} {H' : Hp} (h : updA P t x k v H = some H') (hx : R g x xv) (hk : R g k kv) (hv : R g v vv) :
    ∃ w', (Instr.mapUpdate t xv kv vv).run P w = .ok () w' ∧ Sim base w0 g H' w' := by
  unfold updA at h
  split at h
  · rename_i kt et b kk kx hu
    split at h
    · rename_i kd es hkd hb
      cases hk
      have hki := intKey_of hkd
      cases hx with
      | mp hp =>
        rename_i px
        obtain ⟨y, o, q1, q2, q3⟩ := S.obj b _ hb (by simp)
        rw [hp] at q1; cases q1
        have hlt := (S.pos b px hp).2
        cases q3 with
        | amap hl hr hst =>
          rename_i ms clock
          have hl' : es.length = ms.toList.length := by simpa using hl
          have hr' : ∀ (i : Nat) (e : AV × AV) (m : MapEntry), es[i]? = some e → ms.toList[i]? = some m → R g e.1 m.key ∧ R g e.2 m.val := fun i e m he hm => hr i e m he (by simpa using hm)
          split at h
          · rename_i i u hf
            cases h
            obtain ⟨m, e1, e2, e3, e4, e5⟩ := findA_run (kd := kd) es ms.toList 0 _ hl' hr' hf
            have e4' : ms[i]? = some m := by simpa using e4
            refine ⟨w.putObj px (.map (ms.modify i fun e => { e with key := .int kk kx, val := vv }) clock), ?_, ?_⟩
            · unfold Instr.mapUpdate
              have hbits : Instr.sameBits 10000 (.int kk kx) (.int kk kx) = true := by simp [Instr.sameBits]
              simp only [Sem.run_bind, run_underlying hu, Result.andThen_ok, Sem.run_pure, checkKey_int hki, run_getMap q2, findKey_int hki e1, Instr.keyThatStays, e4', Option.map_some, Option.getD_some, e5, hbits, if_true, run_setMap q2]
            · refine S.turn hb (by simp) hp (grownBy_putM w px _) (heap_putM hlt) (.amap (by simpa using hl) (fun j e m' he hm => ?_) (stamped_modify hst e4' e5))
              rw [List.getElem?_set] at he
              rw [Array.getElem?_modify] at hm
              by_cases hij : i = j
              · subst hij
                rw [if_pos rfl] at he
                rw [if_pos rfl, e4'] at hm
                split at he
                · cases he; cases hm; exact ⟨.val _, hv⟩
                · cases he
              · rw [if_neg hij] at he hm
                exact hr j e m' he hm
          · rename_i hf
            cases h
            have e1 := findA_run (kd := kd) es ms.toList 0 _ hl' hr' hf
            refine ⟨w.putObj px (.map (ms.push { key := .int kk kx, val := vv, born := clock }) (clock + 1)), ?_, ?_⟩
            · unfold Instr.mapUpdate
              simp only [Sem.run_bind, run_underlying hu, Result.andThen_ok, checkKey_int hki, run_getMap q2, findKey_int hki e1, run_setMap q2]
            · refine S.turn hb (by simp) hp (grownBy_putM w px _) (heap_putM hlt) (.amap (by simp [hl]) (fun j e m' he hm => ?_) (stamped_push hst (findA_none es ms.toList 0 hl' hr' hf)))
              rw [List.getElem?_append] at he
              rw [Array.getElem?_push] at hm
              by_cases hj : j < es.length
              · rw [if_pos hj] at he
                rw [if_neg (by omega)] at hm
                exact hr j e m' he hm
              · rw [if_neg hj] at he
                by_cases hje : j = es.length
                · subst hje
                  rw [if_pos (by omega)] at hm
                  simp at he hm
                  subst he; subst hm
                  exact ⟨.val _, hv⟩
                · rw [List.getElem?_eq_none (by simp; omega)] at he
                  cases he
          · cases h
    · cases h
  · cases h

def delA (P : Program) (t : TypeId) (x k : AV) (H : Hp) : Option Hp :=
  match P.underlying t, x, k with
  | some (.map kt _), .mp b, .val (.int kk kx) => match intKey P kt, H[b]? with
    | some _, some (.amap es) => match findA kk kx es 0 with
      | some (some (i, _)) => some (H.set b (.amap (es.eraseIdx i)))
      | some none => some (H.set b (.amap es))
      | none => none
    | _, _ => none
  | _, _, _ => none

theorem delA_run (S : Sim base w0 g H w) {t ty t2 : TypeId} {x k : AV} {xv kv : Value} {H' : Hp} (h : delA P t x k H = some H') (hx : R g x xv) (hk : R g k kv) :
    ∃ w', (Builtin.delete_ #[t, t2] ty #[xv, kv]).run P w = .ok (.tuple #[]) w' ∧ Sim base w0 g H' w' := by
  unfold delA at h
  split at h
  · rename_i kt et b kk kx hu
    split at h
    · rename_i kd es hkd hb
      cases hk
      have hki := intKey_of hkd
      cases hx with
      | mp hp =>
        rename_i px
        obtain ⟨y, o, q1, q2, q3⟩ := S.obj b _ hb (by simp)
        rw [hp] at q1; cases q1
        have hlt := (S.pos b px hp).2
        cases q3 with
        | amap hl hr hst =>
          rename_i ms clock
          have hl' : es.length = ms.toList.length := by simpa using hl
          have hr' : ∀ (i : Nat) (e : AV × AV) (m : MapEntry), es[i]? = some e → ms.toList[i]? = some m → R g e.1 m.key ∧ R g e.2 m.val := fun i e m he hm => hr i e m he (by simpa using hm)
          split at h
          · rename_i i u hf
            cases h
            obtain ⟨m, e1, e2, e3, e4, e5⟩ := findA_run (kd := kd) es ms.toList 0 _ hl' hr' hf
            have hi : i < ms.size := by
              have := (List.getElem?_eq_some_iff.1 e4).1
              simpa using this
            refine ⟨w.putObj px (.map (ms.eraseIdxIfInBounds i) clock), ?_, ?_⟩
            · unfold Builtin.delete_
              simp [Sem.run_bind, run_underlying hu, checkKey_int hki, run_getMap q2, findKey_int hki e1, run_setMap q2]
            · refine S.turn hb (by simp) hp (grownBy_putM w px _) (heap_putM hlt) (.amap ?_ (fun j e m' he hm => ?_) (stamped_erase hst))
              · rw [List.length_eraseIdx_of_lt (by omega)]
                simp [Array.eraseIdxIfInBounds, hi, hl]
              · rw [List.getElem?_eraseIdx] at he
                have hm2 : (ms.toList.eraseIdx i)[j]? = some m' := by
                  rw [← hm]
                  simp [Array.eraseIdxIfInBounds, hi, ← Array.getElem?_toList]
                rw [List.getElem?_eraseIdx] at hm2
                split at he
                · rename_i hji
                  rw [if_pos hji] at hm2
                  exact hr' j e m' he hm2
                · rename_i hji
                  rw [if_neg hji] at hm2
                  exact hr' (j + 1) e m' he hm2
          · rename_i hf
            cases h
            have e1 := findA_run (kd := kd) es ms.toList 0 _ hl' hr' hf
            refine ⟨w.putObj px (.map ms clock), ?_, ?_⟩
            · unfold Builtin.delete_
              simp [Sem.run_bind, run_underlying hu, checkKey_int hki, run_getMap q2, findKey_int hki e1, run_setMap q2]
            · exact S.turn hb (by simp) hp (grownBy_putM w px _) (heap_putM hlt) (.amap hl hr hst)
          · cases h
    · cases h
  · cases h

end Go.Proofs.Ytphfdbmbdaninaa.Ab
namespace Go.Proofs.Ytphfdbmbdaninaa.Ab
open Go Go.RowKit

variable {base : Nat} {w0 w w' : World} {g : Gh} {H : Hp} {P : Program}

def isMu (mu : Nat → Bool) : Option Tmp → Bool
  | some d => mu d
  | none => false

def boxA (m : Bool) (elem : TypeId) (cs : List AV) (H : Hp) : AV × Hp :=
  if m then (.mptr H.length 0 0, H ++ [.cells [cs] elem]) else (.rptr cs 0, H)

/-- the elements that an append takes -/
def srcA (k : Nat) (x : AV) (H : Hp) : Option (List (List AV)) :=
  match x with
  | .val (.slice none 0 _) => some []
  | .rsl es _ => if es.all (fun e => e.length == k) then some es else none
  | .msl b off len => match H[b]? with
    | some (.cells es _) => if off + len ≤ es.length ∧ es.all (fun e => e.length == k) then some ((es.drop off).take len) else none
    | _ => none
  | _ => none

def appendA (P : Program) (t t' : TypeId) (s x : AV) (H : Hp) : Option (AV × Hp) :=
  if t = t' then
    match P.underlying t with
    | some (.slice e) => match P.info? e with
      | some inf => match inf.zero with
        | some z =>
          if z.cells.size = inf.size ∧ 0 < inf.size ∧ 0 < inf.bytes then
            match srcA inf.size x H with
            | some xs =>
              if xs.length = 0 then (match s with | .val (.slice none 0 0) => some (s, H) | .rsl .. => some (s, H) | .msl .. => some (s, H) | _ => none)
              else match s with
                | .val (.slice none 0 0) => if xs.length * inf.bytes ≤ 140737488355328 then some (.msl H.length 0 xs.length, H ++ [.cells xs e]) else none
                | .rsl es true => if es.all (fun e => e.length == inf.size) ∧ (es.length + xs.length) * inf.bytes ≤ 140737488355328 then some (.msl H.length 0 (es.length + xs.length), H ++ [.cells (es ++ xs) e]) else none
                | .msl b 0 len => match H[b]? with
                  | some (.cells es e') =>
                    if e' = e ∧ len ≤ es.length ∧ 0 < es.length ∧ es.all (fun e => e.length == inf.size) ∧ xs.all (fun e => e.all AV.isCell) ∧ (len + xs.length) * inf.bytes ≤ 140737488355328 then
                      some (.msl H.length 0 (len + xs.length), H.set b .dead ++ [.cells (es.take len ++ xs) e]) else none
                  | _ => none
                | _ => none
            | none => none
          else none
        | none => none
      | none => none
    | _ => none
  else none

theorem le_maxLen {n b : Nat} (hb : 0 < b) (h : n * b ≤ 140737488355328) : n ≤ maxLen := by
  have := Nat.le_mul_of_pos_right n hb
  simp only [maxLen]; omega

theorem srcA_src (S : Sim base w0 g H w) {k : Nat} {x : AV} {xv : Value} {xs : List (List AV)} (h : srcA k x H = some xs) (hx : R g x xv) (hk : 0 < k) (h0 : xs.length ≠ 0) : Src w g k xs xv := by
  unfold srcA at h
  split at h
  · cases h; exact absurd rfl h0
  · split at h
    · cases h; exact Src.rsl S hx hk (by assumption) (Nat.pos_of_ne_zero h0)
    · cases h
  · split at h
    · split at h
      · rename_i hb hif
        cases h
        refine Src.msl S hx hb hif.1 hif.2 ?_
        simp at h0
        omega
      · cases h
    · cases h
  · cases h

theorem srcA_none {k : Nat} {x : AV} {xv : Value} {xs : List (List AV)} (h : srcA k x H = some xs) (hx : R g x xv) (h0 : xs.length = 0) : ∃ ad c, xv = .slice ad 0 c := by
  unfold srcA at h
  split at h
  · cases hx; cases h
    exact ⟨_, _, rfl⟩
  · split at h
    · cases h
      cases hx with
      | rnil => exact ⟨_, _, rfl⟩
      | rsl vs hn => rw [h0] at hn; subst hn; exact ⟨_, _, rfl⟩
    · cases h
  · split at h
    · split at h
      · rename_i hb hif
        cases h
        cases hx with
        | msl => exact ⟨_, _, by congr 1; simp at h0; omega⟩
      · cases h
    · cases h
  · cases h

theorem append_none {t ty e : TypeId} {inf : TypeInfo} (ht : P.underlying t = some (.slice e)) (hi : P.info? e = some inf) (b : Option Addr) (n c : Nat) (hn : n ≤ c) (ad : Option Addr) (k : Nat) :
    (Builtin.append_ #[t, t] ty #[.slice b n c, .slice ad 0 k]).run P w = .ok (.slice b n c) w := by
  cases b <;> cases ad <;> simp [Builtin.append_, run_underlying ht, sizeOf, typeInfo, hi, Builtin.lenOf, Builtin.firstCells, loadCells, loadCellsFrom, storeCells, hn]

theorem appendA_run (S : Sim base w0 g H w) {t t' ty : TypeId} {s x r : AV} {sv xv : Value} {H' : Hp} (h : appendA P t t' s x H = some (r, H')) (hs : R g s sv) (hx : R g x xv) :
    ∃ v g' w', (Builtin.append_ #[t, t'] ty #[sv, xv]).run P w = .ok v w' ∧ g.le g' ∧ Sim base w0 g' H' w' ∧ R g' r v := by
  unfold appendA at h
  split at h
  · rename_i htt
    subst htt
    split at h
    · rename_i e hu
      split at h
      · rename_i inf hi
        split at h
        · rename_i z hz
          split at h
          · rename_i hif
            obtain ⟨hzs, hk, hby⟩ := hif
            split at h
            · rename_i xs hxs
              split at h
              · rename_i h0
                obtain ⟨ad, c, rfl⟩ := srcA_none hxs hx h0
                split at h
                · cases h
                  cases hs
                  exact ⟨_, g, w, append_none hu hi none 0 0 (Nat.le_refl _) ad c, Gh.le.refl g, S, .val _⟩
                · cases h
                  cases hs with
                  | rnil => exact ⟨_, g, w, append_none hu hi _ 0 0 (Nat.le_refl _) ad c, Gh.le.refl g, S, .rnil _⟩
                  | rsl vs hn hl hc hm hk hf hr => exact ⟨_, g, w, append_none hu hi _ _ _ hl ad c, Gh.le.refl g, S, .rsl vs hn hl hc hm hk hf hr⟩
                · cases h
                  cases hs with
                  | msl hp hl hc hm => exact ⟨_, g, w, append_none hu hi _ _ _ hl ad c, Gh.le.refl g, S, .msl hp hl hc hm⟩
                · cases h
              · rename_i h0
                have hsrc := srcA_src S hxs hx hk h0
                split at h
                · split at h
                  · rename_i hb
                    cases h
                    cases hs
                    obtain ⟨v, w', g', h1, h2, h3, h4⟩ := append_nil (ty := ty) S hu hi hz hzs hsrc (by omega) (le_maxLen hby hb) hb
                    exact ⟨v, g', w', h1, h2, h3, h4⟩
                  · cases h
                · split at h
                  · rename_i hb
                    cases h
                    obtain ⟨v, w', g', h1, h2, h3, h4⟩ := append_exact (ty := ty) S hu hi hz hzs hk hs hb.1 hsrc (by omega) (le_maxLen hby hb.2) hb.2
                    exact ⟨v, g', w', h1, h2, h3, h4⟩
                  · cases h
                · split at h
                  · rename_i hb
                    split at h
                    · rename_i hc
                      obtain ⟨rfl, c1, c2, c3, c4, c5⟩ := hc
                      cases h
                      obtain ⟨v, w', g', h1, h2, h3, h4⟩ := append_own (ty := ty) S hu hi hz hzs hk hs hb c1 c2 c3 hsrc c4 (le_maxLen hby c5) c5
                      exact ⟨v, g', w', h1, h2, h3, h4⟩
                    · cases h
                  · cases h
                · cases h
            · cases h
          · cases h
        · cases h
      · cases h
    · cases h
  · cases h

/-- len -/
def lenA (P : Program) (t : TypeId) (x : AV) (H : Hp) : Option AV :=
  match P.underlying t, x with
  | some (.slice _), .rsl es _ => some (.val (.int .i64 es.length))
  | some (.slice _), .msl _ _ n => some (.val (.int .i64 n))
  | some (.slice _), .val (.slice none n _) => some (.val (.int .i64 n))
  | some (.string), .val (.string s) => some (.val (.int .i64 s.size))
  | some (.map _ _), .val (.map none) => some (.val (.int .i64 0))
  | some (.map _ _), .mp b => match H[b]? with
    | some (.amap es) => some (.val (.int .i64 es.length))
    | _ => none
  | _, _ => none

theorem lenA_run (S : Sim base w0 g H w) {t ty : TypeId} {x r : AV} {xv : Value} (h : lenA P t x H = some r) (hx : R g x xv) :
    ∃ v, (Builtin.len_ #[t] ty #[xv]).run P w = .ok v w ∧ R g r v := by
  unfold lenA at h
  split at h
  · rename_i hu
    cases h
    cases hx with
    | rnil => exact ⟨_, by simp [Builtin.len_, run_underlying hu, goInt], .val _⟩
    | rsl vs hn => subst hn; exact ⟨_, by simp [Builtin.len_, run_underlying hu, goInt], .val _⟩
  · rename_i hu
    cases h
    cases hx
    exact ⟨_, by simp [Builtin.len_, run_underlying hu, goInt], .val _⟩
  · rename_i hu
    cases h
    cases hx
    exact ⟨_, by simp [Builtin.len_, run_underlying hu, goInt], .val _⟩
  · rename_i hu
    cases h
    cases hx
    exact ⟨_, by simp [Builtin.len_, run_underlying hu, goInt], .val _⟩
  · rename_i hu
    cases h
    cases hx
    exact ⟨_, by simp [Builtin.len_, run_underlying hu, goInt], .val _⟩
  · rename_i b hu
    split at h
    · rename_i es hb
      cases h
      cases hx with
      | mp hp =>
        obtain ⟨y, o, h1, h2, h3⟩ := S.obj b _ hb (by simp)
        rw [hp] at h1; cases h1
        cases h3 with
        | amap hl hr =>
          refine ⟨_, ?_, .val _⟩
          simp [Builtin.len_, run_underlying hu, goInt, getObj, Sem.run, h2, hl]
    · cases h
  · cases h

def builtinA (P : Program) (b : Builtin) (aT : Array TypeId) (args : List AV) (H : Hp) : Option (AV × Hp) :=
  match b, aT.toList, args with
  | .len, [t], [x] => (lenA P t x H).map (·, H)
  | .append, [t, t'], [s, x] => appendA P t t' s x H
  | .max, _, args => (maxA true args).map (·, H)
  | .min, _, args => (maxA false args).map (·, H)
  | .delete, [t, _], [m, k] => (delA P t m k H).map fun H' => (.val (.tuple #[]), H')
  | _, _, _ => none

/-- of types: zero values, sizes, elements, fields -/
def zeroA (P : Program) (t : TypeId) : Option (List AV) :=
  match P.info? t with
  | some i => match i.zero with
    | some z => some (z.cells.toList.map .val)
    | none => none
  | none => none

def sizeA (P : Program) (t : TypeId) : Option Nat := (P.info? t).map (·.size)

inductive Els where
  | sl (e : TypeId) (k : Nat)
  | ar (n : Nat) (e : TypeId) (k : Nat)
  | no

def elemA (P : Program) (t : TypeId) : Els :=
  match P.underlying t with
  | some (.slice e) => match sizeA P e with
    | some k => .sl e k
    | none => .no
  | some (.array n e) => match sizeA P e with
    | some k => if 2 ≤ n then .ar n e k else .no
    | none => .no
  | _ => .no

def fieldTO (P : Program) (t : TypeId) (f : Nat) : Option (TypeId × Nat) :=
  match P.underlying t with
  | some (.struct fs) => match fs[f]? with
    | some fl => some (fl.type, fl.offset)
    | none => none
  | _ => none

def stepA (P : Program) (mu : Nat → Bool) (o : Oper) (T : Env) (H : Hp) : Option (AV × Hp) :=
  match o.op with
  | .move x => some (evA T x, H)
  | .assign x => some (evA T x, H)
  | .pick c a b => match evA T c with
    | .val (.bool t) => some (if t then evA T a else evA T b, H)
    | _ => none
  | .alloc elem => match zeroA P elem with
    | some z => some (boxA (isMu mu o.dst) elem z H)
    | none => none
  | .box elem x => some (boxA (isMu mu o.dst) elem (evA T x).cells H)
  | .build t ps => (buildA P t (partsA (evA T) ps)).map (·, H)
  | .buildSlice t len ps => match litA P t len (partsA (evA T) ps) with
    | some (es, e) => if isMu mu o.dst then some (.msl H.length 0 len, H ++ [.cells es e]) else some (.rsl es true, H)
    | none => none
  | .load t a => match evA T a with
    | .rptr cs off => (loadA P t cs off).map (·, H)
    | .mptr b i off => match H[b]? with
      | some (.cells es _) => match es[i]? with
        | some e => (loadA P t e off).map (·, H)
        | none => none
      | _ => none
    | _ => none
  | .store t a x => match evA T a with
    | .mptr b i off => match H[b]?, sizeA P t with
      | some (.cells es ty), some k => match es[i]? with
        | some e =>
          if k = (evA T x).cells.length ∧ off + (evA T x).cells.length ≤ e.length ∧ (evA T x).cells.all AV.isCell then
            some (.val undef, H.set b (.cells (es.set i (setAt e off (evA T x).cells)) ty)) else none
        | none => none
      | _, _ => none
    | _ => none
  | .nilCheck x => match evA T x with
    | .rptr cs off => some (.rptr cs off, H)
    | .mptr b i off => some (.mptr b i off, H)
    | .fn (.func f) cap => some (.fn (.func f) cap, H)
    | .val (.pointer (some a)) => some (.val (.pointer (some a)), H)
    | _ => none
  | .binOp op t x y _ => (binA P op t x y (evA T x) (evA T y)).map (·, H)
  | .unOp op _ x => (unA P op (evA T x)).map (·, H)
  | .convert src dst x => (convA P src dst (evA T x)).map (·, H)
  | .makeFunc f first captured => match f with
    | .func k => if first.size = 0 then some (.fn (.func k) (captured.toList.map (evA T)), H) else if captured.size = 0 then some (.mth k (first.toList.map (evA T)), H) else none
    | _ => none
  | .makeSlice t l c => match evA T l, evA T c with
    | .val (.int _ n), .val (.int _ m) => if n = m then (match makeA P t n with
      | some (es, e) => some (.msl H.length 0 n.toNat, H ++ [.cells es e])
      | none => none) else none
    | _, _ => none
  | .slice t x lo hi mx => (sliceA P t (evA T x) (lo.map (evA T)) (hi.map (evA T)) (mx.map (evA T))).map (·, H)
  | .fieldAddr s x f => match fieldOff P s f with
    | some d => match evA T x with
      | .rptr cs off => some (.rptr cs (off + d), H)
      | .mptr b i off => some (.mptr b i (off + d), H)
      | _ => none
    | none => none
  | .field t x f => match evA T x, fieldTO P t f with
    | .agg cs, some (ft, fo) => (loadA P ft cs fo).map (·, H)
    | .val (.agg vs), some (ft, fo) => (loadA P ft (vs.toList.map .val) fo).map (·, H)
    | _, _ => none
  | .indexAddr t x i => match evA T i with
    | .val (.int _ n) =>
      if 0 ≤ n then
        match evA T x, elemA P t with
        | .rsl es _, .sl _ k => match es[n.toNat]? with
          | some c => if c.length = k then some (.rptr c 0, H) else none
          | none => none
        | .msl b off len, .sl _ k => match H[b]? with
          | some (.cells es _) => if n.toNat < len then (match es[off + n.toNat]? with
            | some c => if c.length = k then some (.mptr b (off + n.toNat) 0, H) else none
            | none => none) else none
          | _ => none
        | .rptr cs off, .ar m _ k => if n < (m : Int) then some (.rptr cs (off + n.toNat * k), H) else none
        | .mptr b j off, .ar m _ k => if n < (m : Int) then some (.mptr b j (off + n.toNat * k), H) else none
        | _, _ => none
      else none
    | _ => none
  | .index t x i => match (evA T x).flat, (evA T i).flat with
    | some u, some v => (pureRun P (Instr.index t u v)).map (.val ·, H)
    | none, some (.int _ n) => match evA T x, elemA P t with
      | .agg cs, .ar m e k => if 0 ≤ n ∧ n < (m : Int) then (loadA P e cs (n.toNat * k)).map (·, H) else none
      | _, _ => none
    | _, _ => none
  | .extract t ix => match evA T t with
    | .tup cs => (cs[ix]?).map (·, H)
    | .val (.tuple vs) => (vs[ix]?).map (.val ·, H)
    | _ => none
  | .makeMap _ none => some (.mp H.length, H ++ [.amap []])
  | .lookup t x i ok => (lookA P t (evA T x) (evA T i) ok H).map (·, H)
  | .mapUpdate t m k v => (updA P t (evA T m) (evA T k) (evA T v) H).map fun H' => (.val undef, H')
  | .call c => match c.callee with
    | .builtin b => builtinA P b c.argTypes (c.args.toList.map (evA T)) H
    | _ => none
  | _ => none

end Go.Proofs.Ytphfdbmbdaninaa.Ab
