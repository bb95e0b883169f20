/- Slices that are made, literals of slices, slices of slices. -/
import Derived.Test.YtphfdbmbdaninaaA5
namespace Go.Proofs.Ytphfdbmbdaninaa.Ab
open Go Go.RowKit

variable {base : Nat} {w0 w w' : World} {g : Gh} {H : Hp} {P : Program}

theorem made_rel (g : Gh) {z : Array Value} {k n : Nat} (hz : z.size = k) (_hk : 0 < k) : FRel g k (List.replicate n (z.toList.map .val)) (madeCells z (n * k)).toList := by
  refine ⟨by simp [madeCells], fun i e he => ?_, fun i e j c he hc => ?_⟩
  · rw [List.getElem?_replicate] at he
    split at he
    · cases he; simpa using hz
    · cases he
  · rw [List.getElem?_replicate] at he
    split at he
    · rename_i hi
      cases he
      simp only [List.getElem?_map, Array.getElem?_toList, Option.map_eq_some_iff] at hc
      obtain ⟨v, hv, rfl⟩ := hc
      have hj : j < k := by rw [← hz]; exact (Array.getElem?_eq_some_iff.1 hv).1
      refine ⟨v, ?_, .val v⟩
      have hlt := idx_lt hi hj
      simp only [madeCells, Array.toList_map, Array.toList_range, List.getElem?_map, List.getElem?_range hlt, Option.map_some, Option.some.injEq]
      have e2 : (i * k + j) % k = j := by rw [Nat.mul_comm, Nat.mul_add_mod, Nat.mod_eq_of_lt hj]
      rw [hz, e2]
      have := (Array.getElem?_eq_some_iff.1 hv).2
      rw [← this]
      exact getElem!_pos z j (by omega)
    · cases he

theorem FRel.set {k : Nat} {es : List (List AV)} {us : List Value} (h : FRel g k es us) {i : Nat} {cs : List AV} {vs : Array Value} (hi : i < es.length) (hc : RCells g cs vs) (hk : cs.length = k) :
    i * k + vs.size ≤ us.length ∧ FRel g k (es.set i cs) (setAt us (i * k) vs.toList) := by
  have he : es[i]? = some es[i] := by simp [hi]
  have ho : ORel g k es.length (.cells es 0) (.cells us.toArray 0 (0, 0)) := h.orel (by simpa using h.size) (Nat.le_refl _) (by rw [← h.size]; simp)
  have hw := ORel.write (off := 0) ho he (by rw [h.len i _ he, hk]; omega) hc
  have hsz := hc.size
  have hset : setAt es[i] 0 cs = cs := by
    have := h.len i _ he
    simp [setAt, this, hk]
  refine ⟨by simpa using hw.1, ?_⟩
  have h2 := hw.2
  rw [hset] at h2
  cases h2 with
  | cells hs hl hk' hr =>
    refine ⟨by simpa using hs, hk', fun i' e j c he hc => ?_⟩
    obtain ⟨v, hv, hR⟩ := hr i' e j c he hc
    exact ⟨v, by simpa using hv, hR⟩

def fillE (k : Nat) (es : List (List AV)) : List (Nat × AV) → Option (List (List AV))
  | [] => some es
  | (i, v) :: rest => if v.cells.length = k ∧ i < es.length then fillE k (es.set i v.cells) rest else none

theorem fillE_length (k : Nat) : ∀ (ps : List (Nat × AV)) (es out : List (List AV)), fillE k es ps = some out → out.length = es.length
  | [], es, out, h => by simp only [fillE, Option.some.injEq] at h; rw [h]
  | (i, v) :: rest, es, out, h => by
    simp only [fillE] at h
    split at h
    · rw [fillE_length k rest _ _ h]; simp
    · cases h

theorem fillE_run (k : Nat) : ∀ (ps : List (Nat × AV)) (qs : List (Nat × Value)) (es : List (List AV)) (us : List Value) (out : List (List AV)),
    FRel g k es us → ps.length = qs.length → (∀ (n : Nat) (p : Nat × AV) (q : Nat × Value), ps[n]? = some p → qs[n]? = some q → p.1 = q.1 ∧ R g p.2 q.2) → fillE k es ps = some out →
    ∃ os : List Value, Instr.fill (fun i => some (i * k, k)) us.toArray qs = some os.toArray ∧ FRel g k out os
  | [], [], es, us, out, h, _, _, e => by simp only [fillE, Option.some.injEq] at e; subst e; exact ⟨us, rfl, h⟩
  | [], _ :: _, _, _, _, _, hl, _, _ => by simp at hl
  | _ :: _, [], _, _, _, _, hl, _, _ => by simp at hl
  | (i, a) :: ps, (i', v) :: qs, es, us, out, h, hl, hr, e => by
    obtain ⟨e0, hR⟩ := hr 0 (i, a) (i', v) rfl rfl
    simp only at e0; subst e0
    have hc := hR.cells
    simp only at hc
    have hsz := hc.size
    simp only [fillE] at e
    split at e
    · rename_i hif
      obtain ⟨hk, hi⟩ := hif
      obtain ⟨hfit, hF⟩ := h.set hi hc hk
      obtain ⟨os, h1, h2⟩ := fillE_run k ps qs _ _ out hF (by simpa using hl) (fun n p q hp hq => hr (n + 1) p q (by simpa using hp) (by simpa using hq)) e
      refine ⟨os, ?_, h2⟩
      rw [← h1]
      simp only [Instr.fill]
      rw [if_neg (by simp only [Bool.or_eq_true, decide_eq_true_eq, not_or, List.size_toArray]; omega)]
      congr 1
      have := foldset (i * k) v.cells.toList 0 us.toArray (by simp; omega)
      apply Array.ext'
      rw [← Array.foldl_toList, Array.toList_zipIdx]
      simpa using this
    · cases e

/-- a literal of a slice: its elements -/
def litA (P : Program) (t : TypeId) (len : Nat) (ps : List (Nat × AV)) : Option (List (List AV) × TypeId) :=
  match P.underlying t with
  | some (.slice e) => match P.info? e with
    | some inf => match inf.zero with
      | some z => if z.cells.size = inf.size ∧ 0 < inf.size ∧ len * inf.size ≤ 16777216 then (fillE inf.size (List.replicate len (z.cells.toList.map .val)) ps).map fun es => (es, e) else none
      | none => none
    | none => none
  | _ => none

theorem lit_run {t e : TypeId} {len : Nat} {ps : List (Nat × AV)} {qs : Array (Nat × Value)} {es : List (List AV)} (h : litA P t len ps = some (es, e)) (hl : ps.length = qs.size)
    (hr : ∀ (n : Nat) (p : Nat × AV) (q : Nat × Value), ps[n]? = some p → qs[n]? = some q → p.1 = q.1 ∧ R g p.2 q.2) :
    ∃ (k : Nat) (us : List Value), (Instr.buildSlice t len qs).run P w = .ok (.slice (some ⟨w.heap.size, 0, none⟩) len len) (w.alloc (.cells us.toArray e)) ∧ FRel g k es us ∧ es.length = len ∧ len ≤ maxLen := by
  unfold litA at h
  split at h
  · rename_i e' hu
    split at h
    · rename_i inf hi
      split at h
      · rename_i z hz
        split at h
        · rename_i hif
          obtain ⟨hzs, hk, hfit⟩ := hif
          simp only [Option.map_eq_some_iff, Prod.mk.injEq] at h
          obtain ⟨es', hes, rfl, rfl⟩ := h
          obtain ⟨us, h1, h2⟩ := fillE_run inf.size ps qs.toList _ _ es' (made_rel g hzs hk) (by simpa using hl) (fun n p q hp hq => hr n p q hp (by simpa using hq)) hes
          have hlen := fillE_length _ _ _ _ hes
          simp only [List.length_replicate] at hlen
          have hml : len ≤ maxLen := by
            have := Nat.le_mul_of_pos_right len hk
            simp only [maxLen]; omega
          refine ⟨inf.size, us, ?_, h2, hlen, hml⟩
          have hno : ¬ (len * inf.size > 2 ^ 24) := by omega
          simp only [Instr.buildSlice, Sem.run_bind, run_underlying hu, Result.andThen_ok, run_sizeOf _ _ hi]
          rw [if_neg hno]
          rw [Array.toArray_toList] at h1
          by_cases h0 : len * inf.size = 0
          · rw [if_pos h0]
            have hm : (Array.range (len * inf.size)).map (fun x => (#[] : Array Value)[x % (#[] : Array Value).size]!) = madeCells z.cells (len * inf.size) := by simp [h0, madeCells]
            simp only [Sem.run_bind, Sem.run_pure, Result.andThen_ok, hm, h1]
            simp [newRow]
          · rw [if_neg h0]
            have hm : (Array.range (len * inf.size)).map (fun x => z.cells[x % z.cells.size]!) = madeCells z.cells (len * inf.size) := rfl
            simp only [Sem.run_bind, zeroValue, typeInfo, run_program, hi, hz, Sem.run_pure, Result.andThen_ok, hm, h1]
            simp [newRow]
        · cases h
      · cases h
    · cases h
  · cases h

/-- frozen -/
theorem lit_fz (S : Sim base w0 g H w) {es : List (List AV)} {us : List Value} {k : Nat} (hF : FRel g k es us) (hm : es.length ≤ maxLen) (t : TypeId) :
    ∃ g', g.le g' ∧ Sim base w0 g' H (w.alloc (.cells us.toArray t)) ∧ R g' (.rsl es true) (.slice (some ⟨w.heap.size, 0, none⟩) es.length es.length) := by
  have hle := S.fzAdd_le us.toArray
  refine ⟨_, hle, S.allocFz us.toArray t, ?_⟩
  refine R.rsl (o := 0) (k := k) (fun i j => us[i * k + j]?.getD undef) rfl (Nat.le_refl _) (fun _ => rfl) hm hF.len (fun i j hi hj => ?_) (fun i e j c he hc => ?_)
  · show (if w.heap.size = w.heap.size then us.toArray[0 + i * k + j]? else _) = _
    rw [if_pos rfl, Nat.zero_add]
    have : i * k + j < us.length := by rw [hF.size]; exact idx_lt hi hj
    simp [this]
  · obtain ⟨v, hv, hR⟩ := hF.cell i e j c he hc
    simp only [hv, Option.getD_some]
    exact hR.mono hle

/-- make([]T, n) -/
def makeA (P : Program) (t : TypeId) (n : Int) : Option (List (List AV) × TypeId) :=
  match P.underlying t with
  | some (.slice e) => match P.info? e with
    | some inf => match inf.zero with
      | some z => if z.cells.size = inf.size ∧ 0 < inf.size ∧ 0 ≤ n ∧ inf.bytes * n ≤ 281474976710656 ∧ n ≤ 9223372036854775807 then some (List.replicate n.toNat (z.cells.toList.map .val), e) else none
      | none => none
    | none => none
  | _ => none

theorem make_own (S : Sim base w0 g H w) {t e : TypeId} {n : Int} {kl kc : IntKind} {es : List (List AV)} (h : makeA P t n = some (es, e)) :
    ∃ v w' g', (Instr.makeSlice t (.int kl n) (.int kc n)).run P w = .ok v w' ∧ g.le g' ∧ Sim base w0 g' (H ++ [.cells es e]) w' ∧ R g' (.msl H.length 0 n.toNat) v := by
  unfold makeA at h
  split at h
  · rename_i e' hu
    split at h
    · rename_i inf hi
      split at h
      · rename_i z hz
        split at h
        · rename_i hif
          obtain ⟨hzs, hk, hn, hb, hm⟩ := hif
          cases h
          have hr := run_make (P := P) w t e inf z hu hi hz kl kc n n hn (Int.le_refl _) hb hm
          have hF := made_rel g (n := n.toNat) hzs hk
          obtain ⟨g', h1, h2, h3⟩ := own_new S (w' := w.alloc (.cells (madeCells z.cells (n.toNat * inf.size)) e)) (cur := madeCells z.cells (n.toNat * inf.size)) (t := e) (cp := n.toNat) hF
            (by simp [madeCells]) (by simp) (by rw [← hF.size, List.take_length]) (by simp only [maxLen]; omega) (World.grownBy_alloc w _ none) (heap_alloc_new w _)
          simp only [List.length_replicate] at h3
          exact ⟨_, _, g', hr, h1, h2, h3⟩
        · cases h
      · cases h
    · cases h
  · cases h

/-! ### slices of slices -/

def bnd (d : Nat) : Option AV → Option Nat
  | none => some d
  | some (.val (.int _ i)) => if 0 ≤ i then some i.toNat else none
  | _ => none

theorem bnd_some (d d' : Nat) (x : AV) : bnd d (some x) = bnd d' (some x) := by
  cases x with
  | val v => cases v <;> rfl
  | _ => rfl

def sliceA (P : Program) (t : TypeId) (x : AV) (lo hi mx : Option AV) : Option AV :=
  match P.underlying t with
  | some (.slice e) => match P.info? e with
    | some inf => match x with
      | .rsl es ex => match bnd 0 lo, bnd es.length hi, bnd es.length mx with
        | some l, some h, some m =>
          if l ≤ h ∧ h ≤ m ∧ m ≤ es.length ∧ (l = h ∨ (es[l]?).map List.length = some inf.size) ∧ (mx.isSome → hi.isSome) then
            some (.rsl ((es.take h).drop l) (if mx.isSome then m == h else ex && h == es.length)) else none
        | _, _, _ => none
      | .msl b off len => match bnd 0 lo, bnd len hi, mx with
        | some l, some h, none => if l ≤ h ∧ h ≤ len then (if l = 0 then some (.msl b off h) else if l = h then some (.rsl [] false) else none) else none
        | _, _, _ => none
      | .val (.slice none 0 0) => match bnd 0 lo, bnd 0 hi, mx with
        | some l, some h, none => if l ≤ h ∧ h ≤ 0 then some (.val (.slice none 0 0)) else none
        | _, _, _ => none
      | _ => none
    | none => none
  | _ => none

def ROpt (g : Gh) : Option AV → Option Value → Prop
  | none, none => True
  | some a, some v => R g a v
  | _, _ => False

theorem bound_run {x : AV} {u : Value} {d n y : Nat} {c : BoundsCode} (h : bnd d (some x) = some n) (hr : R g x u) (hy : n ≤ y) : (Instr.sliceBound u y c).run P w = .ok n w := by
  unfold bnd at h
  split at h
  · rename_i e; cases e
  · rename_i k i e
    cases e
    split at h
    · rename_i h0
      cases h
      cases hr
      simp only [Instr.sliceBound, asIntOf, Sem.run_bind, Sem.run_pure, Result.andThen_ok]
      rw [if_pos (by omega)]
      rfl
    · cases h
  · cases h

theorem bounds_run {lo hi mx : Option AV} {lov hiv mxv : Option Value} {len cap l h m : Nat} (hl : bnd 0 lo = some l) (hh : bnd len hi = some h) (hm : bnd cap mx = some m)
    (r1 : ROpt g lo lov) (r2 : ROpt g hi hiv) (r3 : ROpt g mx mxv) (h1 : l ≤ h) (h2 : h ≤ m) (h3 : m ≤ cap) (h4 : mx.isSome = true → hi.isSome = true) :
    (Instr.sliceBounds true len cap lov hiv mxv).run P w = .ok (l, h, m) w := by
  have em : (match mxv with
      | some v => Instr.sliceBound v cap (if true = true then .slice3Acap else .slice3Alen)
      | none => (Pure.pure cap : Sem Nat)).run P w = .ok m w := by
    cases mx with
    | none => cases mxv with
      | none => simp only [bnd, Option.some.injEq] at hm; subst hm; rfl
      | some v => cases r3
    | some x => cases mxv with
      | none => cases r3
      | some v => exact bound_run hm r3 h3
  unfold Instr.sliceBounds
  cases mx with
  | none => cases mxv with
    | some v => cases r3
    | none =>
      simp only [bnd, Option.some.injEq] at hm
      subst hm
      cases hi with
      | none => cases hiv with
        | some v => cases r2
        | none =>
          simp only [bnd, Option.some.injEq] at hh
          subst hh
          cases lo with
          | none => cases lov with
            | some v => cases r1
            | none => simp only [bnd, Option.some.injEq] at hl; subst hl; rfl
          | some y => cases lov with
            | none => cases r1
            | some v =>
              have := bound_run (P := P) (w := w) (c := .sliceB) hl r1 h1
              simp [this]
      | some z => cases hiv with
        | none => cases r2
        | some v =>
          have e2 := bound_run (P := P) (w := w) (c := .sliceAcap) hh r2 h2
          cases lo with
          | none => cases lov with
            | some v => cases r1
            | none => simp only [bnd, Option.some.injEq] at hl; subst hl; simp [e2]
          | some y => cases lov with
            | none => cases r1
            | some v =>
              have := bound_run (P := P) (w := w) (c := .sliceB) hl r1 h1
              simp [e2, this]
  | some x => cases mxv with
    | none => cases r3
    | some xv =>
      have e3 := bound_run (P := P) (w := w) (c := .slice3Acap) hm r3 h3
      cases hi with
      | none => exact absurd (h4 rfl) (by simp)
      | some z => cases hiv with
        | none => cases r2
        | some v =>
          have e2 := bound_run (P := P) (w := w) (c := .slice3B) hh r2 h2
          cases lo with
          | none => cases lov with
            | some v => cases r1
            | none => simp only [bnd, Option.some.injEq] at hl; subst hl; simp [e2, e3]
          | some y => cases lov with
            | none => cases r1
            | some v =>
              have := bound_run (P := P) (w := w) (c := .slice3C) hl r1 h1
              simp [e2, e3, this]

theorem slice_run {t : TypeId} {x a : AV} {xv : Value} {lo hi mx : Option AV} {lov hiv mxv : Option Value} (h : sliceA P t x lo hi mx = some a) (hx : R g x xv)
    (r1 : ROpt g lo lov) (r2 : ROpt g hi hiv) (r3 : ROpt g mx mxv) : ∃ v, (Instr.sliceAt t xv lov hiv mxv).run P w = .ok v w ∧ R g a v := by
  unfold sliceA at h
  split at h
  · rename_i e hu
    split at h
    · rename_i inf hi'
      split at h
      · rename_i es ex
        split at h
        · rename_i l hh m el eh em
          split at h
          · rename_i hif
            obtain ⟨h1, h2, h3, h4, h5⟩ := hif
            cases h
            cases hx with
            | rnil ad =>
              have hb : ∃ M, bnd 0 mx = some M ∧ hh ≤ M ∧ M ≤ 0 := by
                cases mx with
                | none => exact ⟨0, rfl, Nat.le_trans h2 h3, Nat.le_refl _⟩
                | some y => exact ⟨m, (bnd_some _ _ y).trans em, h2, h3⟩
              obtain ⟨M, hM, hM1, hM2⟩ := hb
              have hrun := bounds_run (P := P) (w := w) el eh hM r1 r2 r3 h1 hM1 hM2 h5
              have e1 : M = 0 := by omega
              have e2 : hh = 0 := by omega
              have e3 : l = 0 := by omega
              subst e1; subst e2; subst e3
              refine ⟨.slice ad 0 0, ?_, ?_⟩
              · simp only [Instr.sliceAt, Instr.slice, Sem.run_bind, run_underlying hu, Result.andThen_ok, run_sizeOf _ _ hi', Sem.run_pure]
                have hrun' : Sem.run P (Instr.sliceBounds true 0 0 lov hiv mxv) w = Result.ok (0, 0, 0) w := hrun
                cases ad <;> simp [hrun'] <;> try rfl
              · simpa using R.rnil ad
            | rsl vs hn hl hc hmx hk hf hr =>
              rename_i b o k n cap
              subst hn
              -- the bound that the machine takes
              have hb : ∃ M, bnd cap mx = some M ∧ hh ≤ M ∧ M ≤ cap ∧ (mx.isSome = true → M = m) ∧ (mx = none → M = cap) := by
                cases mx with
                | none => exact ⟨cap, rfl, by omega, Nat.le_refl _, by simp, fun _ => rfl⟩
                | some y =>
                  exact ⟨m, (bnd_some _ _ y).trans em, h2, by omega, fun _ => rfl, by simp⟩
              obtain ⟨M, hM, hM1, hM2, hM3, hM4⟩ := hb
              have hrun := bounds_run (P := P) (w := w) el eh hM r1 r2 r3 h1 hM1 hM2 h5
              have hln : ((es.take hh).drop l).length = hh - l := by simp; omega
              have hR : ∀ (ad : Option Addr), ad = (if M = l then some ⟨b, o, none⟩ else (some ⟨b, o, none⟩ : Option Addr).map (·.add (l * inf.size))) →
                  R g (.rsl ((es.take hh).drop l) (if mx.isSome then m == hh else ex && hh == es.length)) (.slice ad (hh - l) (M - l)) := by
                intro ad had
                have hcap : (if mx.isSome = true then m == hh else ex && hh == es.length) = true → M - l = hh - l := by
                  intro hc'
                  cases mx with
                  | none =>
                    simp only [Option.isSome_none, Bool.false_eq_true, if_false, Bool.and_eq_true, beq_iff_eq] at hc'
                    have := hc hc'.1
                    have := hM4 rfl
                    omega
                  | some y =>
                    simp only [Option.isSome_some, if_true, beq_iff_eq] at hc'
                    have := hM3 rfl
                    omega
                by_cases hlh : l = hh
                · subst hlh
                  have e0 : ((es.take l).drop l) = [] := by simp
                  have hex : ∃ b' o', ad = some ⟨b', o', none⟩ := by
                    subst had
                    split
                    · exact ⟨_, _, rfl⟩
                    · exact ⟨_, _, by rw [Option.map_some, add_none]⟩
                  obtain ⟨b', o', rfl⟩ := hex
                  rw [e0]
                  exact R.rsl (k := k) (fun _ _ => undef) (by simp) (by omega) hcap (by omega) (by simp) (by simp) (by simp)
                · have hsz : k = inf.size := by
                    rcases h4 with h4 | h4
                    · exact absurd h4 hlh
                    · simp only [Option.map_eq_some_iff] at h4
                      obtain ⟨e', he', hs⟩ := h4
                      rw [← hs, hk _ _ he']
                  subst had
                  have hne : ¬ M = l := by omega
                  rw [if_neg hne, Option.map_some, add_none]
                  refine R.rsl (k := k) (fun i j => vs (l + i) j) hln.symm (by omega) hcap (by omega) (fun i e' he' => ?_) (fun i j hi hj => ?_) (fun i e' j c he' hc' => ?_)
                  · rw [List.getElem?_drop, List.getElem?_take] at he'
                    split at he'
                    · exact hk _ _ he'
                    · cases he'
                  · rw [hln] at hi
                    rw [← hsz]
                    have := hf (l + i) j (by omega) hj
                    rw [Nat.add_mul] at this
                    rw [← this]
                    congr 1
                    omega
                  · rw [List.getElem?_drop, List.getElem?_take] at he'
                    split at he'
                    · exact hr _ _ _ _ he' hc'
                    · cases he'
              refine ⟨_, ?_, hR _ rfl⟩
              simp only [Instr.sliceAt, Instr.slice, Sem.run_bind, run_underlying hu, Result.andThen_ok, hrun, run_sizeOf _ _ hi', Sem.run_pure]
          · cases h
        · cases h
      · rename_i b off len
        split at h
        · rename_i l hh el eh
          split at h
          · rename_i hif
            obtain ⟨h1, h2⟩ := hif
            cases hx with
            | msl hph hl hc hmx =>
              rename_i y cap
              have hrun := bounds_run (P := P) (w := w) (g := g) (mx := none) (mxv := mxv) (cap := cap) el eh rfl r1 r2 (by cases mxv <;> first | trivial | exact r3) h1 (by omega) (Nat.le_refl _) (by simp)
              split at h
              · rename_i h0
                subst h0
                cases h
                refine ⟨.slice (some ⟨y, off * g.ks b, none⟩) hh cap, ?_, .msl hph (by omega) hc hmx⟩
                simp only [Instr.sliceAt, Instr.slice, Sem.run_bind, run_underlying hu, Result.andThen_ok, hrun, run_sizeOf _ _ hi', Sem.run_pure, Nat.zero_mul, Nat.sub_zero]
                congr 2
                split
                · rfl
                · rw [Option.map_some, add_none, Nat.add_zero]
              · split at h
                · rename_i h0 hlh
                  cases h
                  subst hlh
                  have hex : ∃ b' o', (if cap = l then some ⟨y, off * g.ks b, none⟩ else (some ⟨y, off * g.ks b, none⟩ : Option Addr).map (·.add (l * inf.size))) = some ⟨b', o', none⟩ := by
                    split
                    · exact ⟨_, _, rfl⟩
                    · exact ⟨_, _, by rw [Option.map_some, add_none]⟩
                  obtain ⟨b', o', hbo⟩ := hex
                  refine ⟨.slice (some ⟨b', o', none⟩) (l - l) (cap - l), ?_, R.rsl (k := 0) (fun _ _ => undef) (by simp) (by omega) (by simp) (by omega) (by simp) (by simp) (by simp)⟩
                  simp only [Instr.sliceAt, Instr.slice, Sem.run_bind, run_underlying hu, Result.andThen_ok, hrun, run_sizeOf _ _ hi', Sem.run_pure, hbo]
                · cases h
          · cases h
        · cases h
      · split at h
        · rename_i l hh el eh
          split at h
          · rename_i hif
            obtain ⟨h1, h2⟩ := hif
            cases h
            cases hx
            have hrun := bounds_run (P := P) (w := w) (g := g) (mx := none) (mxv := mxv) (cap := 0) el eh rfl r1 r2 (by cases mxv <;> first | trivial | exact r3) h1 h2 (Nat.le_refl _) (by simp)
            have e2 : hh = 0 := by omega
            have e3 : l = 0 := by omega
            subst e2; subst e3
            refine ⟨.slice none 0 0, ?_, .val _⟩
            simp only [Instr.sliceAt, Instr.slice, Sem.run_bind, run_underlying hu, Result.andThen_ok, hrun, run_sizeOf _ _ hi', Sem.run_pure]
            simp
          · cases h
        · cases h
      · cases h
    · cases h
  · cases h

end Go.Proofs.Ytphfdbmbdaninaa.Ab
