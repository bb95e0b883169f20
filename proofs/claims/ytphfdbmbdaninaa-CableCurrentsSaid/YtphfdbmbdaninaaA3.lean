/- Stores, addresses of fields and elements, composite values. -/
import Derived.Test.YtphfdbmbdaninaaA2
namespace Go.Proofs.Ytphfdbmbdaninaa.Ab
open Go Go.RowKit

variable {base : Nat} {w0 w w' : World} {g : Gh} {H : Hp} {P : Program}

def AV.isCell : AV → Bool
  | .agg _ => false
  | .tup _ => false
  | .val v => v.oneCell'
  | _ => true

theorem R.isCell {a : AV} {v : Value} (h : R g a v) (hc : a.isCell = true) : v.oneCell' = true := by
  cases h <;> first | exact hc | rfl | cases hc

def setAt {α : Type} (e : List α) (off : Nat) (cs : List α) : List α := e.take off ++ cs ++ e.drop (off + cs.length)

theorem setAt_length {α : Type} (e cs : List α) (off : Nat) (h : off + cs.length ≤ e.length) : (setAt e off cs).length = e.length := by
  simp [setAt]; omega

theorem setAt_get {α : Type} (e cs : List α) (off j : Nat) (h : off + cs.length ≤ e.length) :
    (setAt e off cs)[j]? = if j < off then e[j]? else if j < off + cs.length then cs[j - off]? else e[j]? := by
  unfold setAt
  by_cases h1 : j < off
  · rw [if_pos h1, List.getElem?_append_left (by simp; omega), List.getElem?_append_left (by simp; omega), List.getElem?_take, if_pos h1]
  · rw [if_neg h1]
    by_cases h2 : j < off + cs.length
    · rw [if_pos h2, List.getElem?_append_left (by simp; omega), List.getElem?_append_right (by simp; omega)]
      congr 1
      simp; omega
    · rw [if_neg h2, List.getElem?_append_right (by simp; omega), List.getElem?_drop]
      congr 1
      simp; omega

theorem idx_lt {i i' j k : Nat} (h : i < i') (hj : j < k) : i * k + j < i' * k := by
  have := Nat.mul_le_mul_right k (Nat.succ_le_of_lt h)
  rw [Nat.succ_mul] at this
  omega

/-- one element of a row of cells is written in part -/
theorem ORel.write {k cp : Nat} {es : List (List AV)} {t : TypeId} {cur : Array Value} {i off : Nat} {e cs : List AV} {vs : Array Value}
    (h : ORel g k cp (.cells es t) (.cells cur t (0, 0))) (he : es[i]? = some e) (hoff : off + cs.length ≤ e.length) (hv : RCells g cs vs) :
    i * k + off + vs.size ≤ cur.size ∧
    ORel g k cp (.cells (es.set i (setAt e off cs)) t) (.cells (setAt cur.toList (i * k + off) vs.toList).toArray t (0, 0)) := by
  cases h with
  | cells hs hl hk hr =>
    have hek := hk i e he
    have hi : i < es.length := (List.getElem?_eq_some_iff.1 he).1
    have hsz := hv.size
    have hfit : i * k + off + vs.size ≤ cur.size := by
      have h1 := Nat.mul_le_mul_right k (Nat.le_trans (Nat.succ_le_of_lt hi) hl)
      rw [Nat.succ_mul] at h1
      omega
    refine ⟨hfit, .cells ?_ (by simpa using hl) (fun i' e' he' => ?_) (fun i' e' j c he' hc => ?_)⟩
    · rw [List.size_toArray, setAt_length _ _ _ (by simpa using hfit)]; simpa using hs
    · rw [List.getElem?_set] at he'
      by_cases hii : i = i'
      · rw [if_pos hii, if_pos hi] at he'
        cases he'; rw [setAt_length _ _ _ hoff]; exact hek
      · rw [if_neg hii] at he'
        exact hk i' e' he'
    · rw [List.getElem?_toArray, setAt_get _ _ _ _ (by simpa using hfit)]
      simp only [Array.length_toList, Array.getElem?_toList]
      rw [List.getElem?_set] at he'
      by_cases hii : i = i'
      · rw [if_pos hii, if_pos hi] at he'
        subst hii
        cases he'
        rw [setAt_get _ _ _ _ hoff] at hc
        by_cases h1 : j < off
        · rw [if_pos h1] at hc
          rw [if_pos (by omega)]
          exact hr i e j c he hc
        · rw [if_neg h1] at hc
          by_cases h2 : j < off + cs.length
          · rw [if_pos h2] at hc
            rw [if_neg (by omega), if_pos (by omega), show i * k + j - (i * k + off) = j - off by omega]
            exact hv.get hc
          · rw [if_neg h2] at hc
            rw [if_neg (by omega), if_neg (by omega)]
            exact hr i e j c he hc
      · rw [if_neg hii] at he'
        obtain ⟨v, h1, h2⟩ := hr i' e' j c he' hc
        have hj : j < k := by rw [← hk i' e' he']; exact (List.getElem?_eq_some_iff.1 hc).1
        refine ⟨v, ?_, h2⟩
        rw [← h1]
        rcases Nat.lt_or_gt_of_ne hii with h | h
        · have := idx_lt h (show k - 1 < k by omega)
          rw [if_neg (by omega), if_neg (by omega)]
        · have := idx_lt h hj
          rw [if_pos (by omega)]

/-- a store into an own block -/
theorem store_own (S : Sim base w0 g H w) {b i off : Nat} {es : List (List AV)} {t : TypeId} {e : List AV} {p v : Value} {a : AV} {ty : TypeId} {inf : TypeInfo}
    (hp : R g (.mptr b i off) p) (hb : H[b]? = some (.cells es t)) (he : es[i]? = some e) (hv : R g a v) (hi : P.info? ty = some inf) (hsz : inf.size = a.cells.length)
    (hoff : off + a.cells.length ≤ e.length) (hc : a.cells.all AV.isCell = true) :
    ∃ w', (Instr.storeAt ty p v).run P w = .ok () w' ∧ Sim base w0 g (H.set b (.cells (es.set i (setAt e off a.cells)) t)) w' := by
  cases hp with
  | mptr hx =>
    rename_i x
    obtain ⟨y, o, h1, h2, h3⟩ := S.obj b _ hb (by simp)
    rw [hx] at h1; cases h1
    have hcs := hv.cells
    cases h3 with
    | cells hs hl hk hr =>
      rename_i cur
      have hw := ORel.write (t := t) (.cells hs hl hk hr) he hoff hcs
      have hone : ∀ u ∈ v.cells.toList, u.oneCell' = true := by
        intro u hu
        obtain ⟨j, hj⟩ := List.getElem?_of_mem hu
        have hj' : j < a.cells.length := by rw [hcs.size]; simpa using (List.getElem?_eq_some_iff.1 hj).1
        have hcj : a.cells[j]? = some a.cells[j] := by simp [hj']
        exact (hcs.cell j _ u hcj (by simpa using hj)).isCell (List.all_eq_true.1 hc _ (List.getElem_mem hj'))
      have hrun := run_storeCells_at P x (i * g.ks b + off) t v.cells.toList 0 cur w h2 (by simpa using hw.1) hone
      refine ⟨_, ?_, S.turn hb (by simp) hx (w' := w.setRow x (setAt cur.toList (i * g.ks b + off) v.cells.toList).toArray) ?_ (setRow_heap w x cur _ t _ h2) hw.2⟩
      · simp only [Instr.storeAt, Instr.sureAddr, storeVar, Sem.run_bind, Sem.run_pure, Result.andThen_ok, run_sizeOf _ _ hi]
        have : ¬ (v.cells.size ≠ inf.size) := by rw [hsz, hcs.size]; simp
        rw [if_neg this, hrun]
        simp [setAt]
      · exact ⟨rfl, rfl, rfl, by simp [World.setRow], fun k _ hk => setRow_other w x k _ (fun e => hk (by simp [e]))⟩

/-! ### addresses -/

theorem rptr_add {cs : List AV} {off d : Nat} {p : Value} (h : R g (.rptr cs off) p) : ∃ ad : Addr, p = .pointer (some ad) ∧ R g (.rptr cs (off + d)) (.pointer (some (ad.add d))) := by
  cases h with
  | rptr vs hf hr => exact ⟨_, rfl, by rw [add_none, Nat.add_assoc]; exact .rptr vs hf hr⟩

theorem mptr_add {b i off d : Nat} {p : Value} (h : R g (.mptr b i off) p) : ∃ ad : Addr, p = .pointer (some ad) ∧ R g (.mptr b i (off + d)) (.pointer (some (ad.add d))) := by
  cases h with
  | mptr hx => exact ⟨_, rfl, by rw [add_none, Nat.add_assoc]; exact .mptr hx⟩

/-- the offset of a field -/
def fieldOff (P : Program) (s : TypeId) (f : Nat) : Option Nat :=
  match P.underlying s with
  | some (.struct fields) => match fields[f]? with
    | some fl => match P.info? fl.type with
      | some i => if i.size = 0 then none else some fl.offset
      | none => none
    | none => none
  | _ => none

theorem fieldOff_run {s : TypeId} {f d : Nat} (h : fieldOff P s f = some d) (ad : Addr) :
    (Instr.fieldAt s (.pointer (some ad)) f).run P w = .ok (.pointer (some (ad.add d))) w := by
  unfold fieldOff at h
  split at h
  · rename_i fields hu
    split at h
    · rename_i fl hf
      split at h
      · rename_i i hi
        split at h
        · cases h
        · rename_i hne
          cases h
          simp [Instr.fieldAt, run_underlying hu, hf, Instr.sureAddr, fieldPlace, run_sizeOf _ _ hi, hne]
      · cases h
    · cases h
  · cases h

/-- an element's address -/
theorem rsl_index {es : List (List AV)} {ex : Bool} {x : Value} {i : Nat} {e : List AV} (h : R g (.rsl es ex) x) (he : es[i]? = some e) :
    ∃ (ad : Addr) (n cap : Nat), x = .slice (some ad) n cap ∧ n = es.length ∧ R g (.rptr e 0) (.pointer (some (ad.add (i * e.length)))) := by
  cases h with
  | rnil => cases he
  | rsl vs hn hl hc hm hk hf hr =>
    rename_i b o k n cap
    refine ⟨_, _, _, rfl, hn, ?_⟩
    have hek := hk i e he
    rw [add_none]
    have hi : i < es.length := (List.getElem?_eq_some_iff.1 he).1
    have : R g (.rptr e 0) (.pointer (some ⟨b, (o + i * e.length) + 0, none⟩)) :=
      .rptr (vs i) (fun j hj => by rw [hek]; exact hf i j hi (by omega)) (fun j c hc => hr i e j c he hc)
    simpa using this

theorem msl_index (S : Sim base w0 g H w) {b off len i : Nat} {x : Value} {es : List (List AV)} {t : TypeId} {e : List AV} (h : R g (.msl b off len) x) (hb : H[b]? = some (.cells es t)) (he : es[off + i]? = some e) :
    ∃ (ad : Addr) (cap : Nat), x = .slice (some ad) len cap ∧ R g (.mptr b (off + i) 0) (.pointer (some (ad.add (i * e.length)))) := by
  cases h with
  | msl hx hl hc hm =>
    rename_i y cap
    obtain ⟨z, o, h1, h2, h3⟩ := S.obj b _ hb (by simp)
    cases h3 with
    | cells hs hl' hk hr =>
      have hek := hk _ e he
      refine ⟨_, _, rfl, ?_⟩
      rw [add_none, hek, ← Nat.add_mul]
      have := R.mptr (g := g) (b := b) (i := off + i) (off := 0) hx
      simpa using this

end Go.Proofs.Ytphfdbmbdaninaa.Ab
