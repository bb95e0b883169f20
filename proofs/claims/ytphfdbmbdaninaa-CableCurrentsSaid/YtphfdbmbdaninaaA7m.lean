/- Maps with integer keys. -/
import Derived.Test.YtphfdbmbdaninaaA7
import Derived.Carry
namespace Go.Proofs.Ytphfdbmbdaninaa.Ab
open Go Go.RowKit

variable {base : Nat} {w0 w w' : World} {g : Gh} {H : Hp} {P : Program}

/-- a value as an abstract one -/
def unV : Value → AV
  | .agg cs => .agg (cs.toList.map .val)
  | v => .val v

theorem unV_rel (v : Value) : R g (unV v) v := by
  cases v <;> first
    | exact .val _
    | (refine .agg (by simp) fun i c u hc hu => ?_
       rw [List.getElem?_map] at hc
       simp only [Array.getElem?_toList] at hc
       rw [hu] at hc
       cases hc
       exact .val _)

def zeroV (P : Program) (t : TypeId) : Option Value :=
  match P.info? t with
  | some i => i.zero
  | none => none

def intKey (P : Program) (t : TypeId) : Option IntKind :=
  match P.underlying t with
  | some (.int k) => some k
  | _ => none

/-- where a key stands -/
def findA (k : IntKind) (x : Int) : List (AV × AV) → Nat → Option (Option (Nat × AV))
  | [], _ => some none
  | (.val (.int k' y), v) :: es, i => if k = k' then (if x = y then some (some (i, v)) else findA k x es (i + 1)) else none
  | _, _ => none

def FoundR (g : Gh) (kd k : IntKind) (x : Int) (ms : List MapEntry) (i : Nat) : Option (Nat × AV) → Prop
  | none => Instr.findNow (.int kd) (.int k x) ms i = some none
  | some (j, v) => ∃ m, Instr.findNow (.int kd) (.int k x) ms i = some (some (j, m.val)) ∧ R g v m.val ∧ i ≤ j ∧ ms[j - i]? = some m ∧ m.key = .int k x

theorem findA_run {kd k : IntKind} {x : Int} : ∀ (es : List (AV × AV)) (ms : List MapEntry) (i : Nat) (r : Option (Nat × AV)), es.length = ms.length →
    (∀ (i : Nat) (e : AV × AV) (m : MapEntry), es[i]? = some e → ms[i]? = some m → R g e.1 m.key ∧ R g e.2 m.val) → findA k x es i = some r → FoundR g kd k x ms i r
  | [], ms, i, r, hl, _, h => by
    cases ms with
    | cons _ _ => simp at hl
    | nil => unfold findA at h; cases h; rfl
  | (kv, v) :: es, ms, i, r, hl, hr, h => by
    cases ms with
    | nil => simp at hl
    | cons m ms =>
      obtain ⟨h1, h2⟩ := hr 0 _ _ rfl rfl
      simp only at h1 h2
      cases kv with
      | val u => cases u with
        | int k' y =>
          simp only [findA] at h
          generalize hk : m.key = mk at h1
          cases h1
          split at h
          · rename_i hkk
            subst hkk
            split at h
            · rename_i hxy
              subst hxy
              cases h
              refine ⟨m, ?_, h2, Nat.le_refl _, by simp, hk⟩
              simp [Instr.findNow, Instr.sameNow, hk]
            · rename_i hxy
              have hb : (x == y) = false := by simpa using hxy
              have ih := findA_run (kd := kd) es ms (i + 1) r (by simpa using hl) (fun i e m' he hm => hr (i + 1) e m' (by simpa using he) (by simpa using hm)) h
              cases r with
              | none =>
                unfold FoundR at ih ⊢
                simp only [Instr.findNow, Instr.sameNow, hk, if_true, hb]
                exact ih
              | some jv =>
                obtain ⟨j', u⟩ := jv
                obtain ⟨m', e1, e2, e3, e4, e5⟩ := ih
                refine ⟨m', ?_, e2, by omega, ?_, e5⟩
                · simp only [Instr.findNow, Instr.sameNow, hk, if_true, hb]
                  exact e1
                · rw [show j' - i = (j' - (i + 1)) + 1 by omega]
                  simpa using e4
          · cases h
        | _ => simp [findA] at h
      | _ => simp [findA] at h

/-! ### the marks of the entries -/
open Go.MapKept (Stamped)

theorem stamped_nil : Stamped #[] 0 := ⟨by simp, by simp, by simp⟩

theorem stamped_push {ms : Array MapEntry} {c : Nat} {k v : Value} (h : Stamped ms c) (hk : ∀ m ∈ ms.toList, m.key ≠ k) : Stamped (ms.push { key := k, val := v, born := c }) (c + 1) := by
  obtain ⟨h1, h2, h3⟩ := h
  refine ⟨fun x hx => ?_, ?_, ?_⟩
  · simp only [Array.toList_push, List.mem_append, List.mem_singleton] at hx
    rcases hx with hx | rfl
    · have := h1 x hx; omega
    · show c < c + 1
      omega
  · simp only [Array.toList_push, List.map_append, List.map_cons, List.map_nil]
    refine List.nodup_append.2 ⟨h2, by simp, fun a ha b hb => ?_⟩
    simp only [List.mem_singleton] at hb
    subst hb
    obtain ⟨x, hx, rfl⟩ := List.mem_map.1 ha
    have := h1 x hx
    omega
  · simp only [Array.toList_push, List.map_append, List.map_cons, List.map_nil]
    refine List.nodup_append.2 ⟨h3, by simp, fun a ha b hb => ?_⟩
    simp only [List.mem_singleton] at hb
    subst hb
    obtain ⟨x, hx, rfl⟩ := List.mem_map.1 ha
    exact hk x hx

theorem stamped_modify {ms : Array MapEntry} {c i : Nat} {k v : Value} {m : MapEntry} (h : Stamped ms c) (hm : ms[i]? = some m) (hk : m.key = k) : Stamped (ms.modify i fun e => { e with key := k, val := v }) c := by
  have e1 : (ms.modify i fun e => { e with key := k, val := v }).toList.map (·.born) = ms.toList.map (·.born) := by
    refine List.ext_getElem? fun j => ?_
    simp only [List.getElem?_map, Array.getElem?_toList, Array.getElem?_modify]
    split
    · rename_i hij; subst hij; rw [hm]; rfl
    · rfl
  have e2 : (ms.modify i fun e => { e with key := k, val := v }).toList.map (·.key) = ms.toList.map (·.key) := by
    refine List.ext_getElem? fun j => ?_
    simp only [List.getElem?_map, Array.getElem?_toList, Array.getElem?_modify]
    split
    · rename_i hij; subst hij; rw [hm]; simp [hk]
    · rfl
  obtain ⟨h1, h2, h3⟩ := h
  refine ⟨fun x hx => ?_, by rw [e1]; exact h2, by rw [e2]; exact h3⟩
  have : x.born ∈ (ms.modify i fun e => { e with key := k, val := v }).toList.map (·.born) := List.mem_map_of_mem hx
  rw [e1] at this
  obtain ⟨y, hy, e⟩ := List.mem_map.1 this
  have := h1 y hy
  omega

theorem stamped_erase {ms : Array MapEntry} {c i : Nat} (h : Stamped ms c) : Stamped (ms.eraseIdxIfInBounds i) c := by
  have hs : (ms.eraseIdxIfInBounds i).toList.Sublist ms.toList := by
    unfold Array.eraseIdxIfInBounds
    split
    · rw [Array.toList_eraseIdx]; exact List.eraseIdx_sublist ..
    · exact List.Sublist.refl _
  obtain ⟨h1, h2, h3⟩ := h
  exact ⟨fun x hx => h1 x (hs.subset hx), h2.sublist (hs.map _), h3.sublist (hs.map _)⟩

theorem findA_none {k : IntKind} {x : Int} : ∀ (es : List (AV × AV)) (ms : List MapEntry) (i : Nat), es.length = ms.length →
    (∀ (i : Nat) (e : AV × AV) (m : MapEntry), es[i]? = some e → ms[i]? = some m → R g e.1 m.key ∧ R g e.2 m.val) → findA k x es i = some none → ∀ m ∈ ms, m.key ≠ .int k x
  | [], ms, i, hl, _, h => by
    cases ms with
    | cons _ _ => simp at hl
    | nil => simp
  | (kv, v) :: es, ms, i, hl, hr, h => by
    cases ms with
    | nil => simp at hl
    | cons m ms =>
      obtain ⟨h1, h2⟩ := hr 0 _ _ rfl rfl
      simp only at h1 h2
      cases kv with
      | val u => cases u with
        | int k' y =>
          simp only [findA] at h
          generalize hk : m.key = mk at h1
          cases h1
          split at h
          · rename_i hkk
            subst hkk
            split at h
            · cases h
            · rename_i hxy
              intro m' hm'
              rcases List.mem_cons.1 hm' with rfl | hm'
              · rw [hk]
                intro e
                cases e
                exact hxy rfl
              · exact findA_none es ms (i + 1) (by simpa using hl) (fun i e m' he hm => hr (i + 1) e m' (by simpa using he) (by simpa using hm)) h m' hm'
          · cases h
        | _ => simp [findA] at h
      | _ => simp [findA] at h

theorem checkKey_int {kt : TypeId} {kd : IntKind} (hu : P.underlying kt = some (.int kd)) (e : Bool) (v : Value) : (Instr.checkKey e 10000 kt v).run P w = .ok () w := by
  unfold Instr.checkKey
  simp only [Sem.run_bind, run_underlying hu, Result.andThen_ok]
  cases v <;> rfl

theorem findKey_int {kt : TypeId} {kd : IntKind} (hu : P.underlying kt = some (.int kd)) {v : Value} {ms : List MapEntry} {r : Option (Nat × Value)} (h : Instr.findNow (.int kd) v ms 0 = some r) : (Instr.findKey kt v ms).run P w = .ok r w := by
  unfold Instr.findKey
  simp only [Sem.run_bind, run_underlying hu, Result.andThen_ok, h, Sem.run_pure]

theorem intKey_of {kt : TypeId} {k : IntKind} (h : intKey P kt = some k) : P.underlying kt = some (.int k) := by
  unfold intKey at h
  split at h
  · rename_i k' hu; cases h; exact hu
  · cases h

theorem run_getMap {x : Nat} {ms : Array MapEntry} {c : Nat} (h : w.heap[x]? = some (.map ms c)) : (getObj x).run P w = .ok (.map ms c) w := by
  simp [getObj, Sem.run, h]

theorem run_setMap {x : Nat} {ms : Array MapEntry} {c : Nat} {o : Obj} (h : w.heap[x]? = some (.map ms c)) : (setObj x o).run P w = .ok () (w.putObj x o) := by
  simp [setObj, Sem.run, h, World.putObj]

theorem grownBy_putM (w : World) (x : Nat) (o : Obj) : w.grownBy (w.putObj x o) (some x) :=
  ⟨rfl, rfl, rfl, by simp [World.putObj], fun k _ hk => by simp only [World.putObj]; rw [Array.getElem?_setIfInBounds_ne (fun e => hk (by rw [e]))]⟩

theorem heap_putM {w : World} {x : Nat} {o : Obj} (h : x < w.heap.size) : (w.putObj x o).heap[x]? = some o := by
  simp [World.putObj, h]

/-- the entries of a map -/
def entsA (x : AV) (H : Hp) : Option (List (AV × AV)) :=
  match x with
  | .val (.map none) => some []
  | .mp b => match H[b]? with
    | some (.amap es) => some es
    | _ => none
  | _ => none

def lookA (P : Program) (t : TypeId) (x k : AV) (ok : Bool) (H : Hp) : Option AV :=
  match P.underlying t with
  | some (.map kt et) => match intKey P kt, zeroV P et, k, entsA x H with
    | some _, some z, .val (.int kk kx), some es => match findA kk kx es 0 with
      | some (some (_, v)) => some (if ok then .tup [v, .val (.bool true)] else v)
      | some none => some (if ok then .tup [unV z, .val (.bool false)] else unV z)
      | none => none
    | _, _, _, _ => none
  | _ => none

theorem run_zeroV {t : TypeId} {z : Value} (h : zeroV P t = some z) : (zeroValue t).run P w = .ok z w := by
  unfold zeroV at h
  split at h
  · rename_i i hi
    simp [zeroValue, typeInfo, hi, h]
  · cases h

theorem tup2_rel {a b : AV} {u v : Value} (h1 : R g a u) (h2 : R g b v) : R g (.tup [a, b]) (.tuple #[u, v]) := by
  refine .tup rfl fun i c x hc hx => ?_
  match i with
  | 0 => simp at hc hx; subst hc; subst hx; exact h1
  | 1 => simp at hc hx; subst hc; subst hx; exact h2
  | n + 2 => simp at hc

theorem lookA_run (S : Sim base w0 g H w) {t : TypeId} {x k r : AV} {xv kv : Value} {ok : Bool} (h : lookA P t x k ok H = some r) (hx : R g x xv) (hk : R g k kv) : ∃ v, (Instr.lookup t xv kv ok).run P w = .ok v w ∧ R g r v := by
  unfold lookA at h
  split at h
  · rename_i kt et hu
    split at h
    · rename_i kd z kk kx es hkd hz he
      cases hk
      have hki := intKey_of hkd
      unfold entsA at he
      split at he
      · cases he
        cases hx
        unfold findA at h
        cases h
        have e1 : Instr.findNow (.int kd) (.int kk kx) ([] : List MapEntry) 0 = some none := rfl
        refine ⟨if ok then .tuple #[z, .bool false] else z, ?_, ?_⟩
        · unfold Instr.lookup
          simp only [Sem.run_bind, run_underlying hu, Result.andThen_ok, Sem.run_pure, checkKey_int hki, findKey_int hki e1, run_zeroV hz]
        · cases ok with
          | true => exact tup2_rel (unV_rel z) (.val _)
          | false => exact unV_rel z
      · rename_i b
        split at he
        · rename_i es' hb
          cases he
          cases hx with
          | mp hp =>
            rename_i px
            obtain ⟨y, o, q1, q2, q3⟩ := S.obj b _ hb (by simp)
            rw [hp] at q1; cases q1
            cases q3 with
            | amap hl hr hst =>
              rename_i ms clock
              have hl' : es.length = ms.toList.length := by simpa using hl
              have hr' : ∀ (i : Nat) (e : AV × AV) (m : MapEntry), es[i]? = some e → ms.toList[i]? = some m → R g e.1 m.key ∧ R g e.2 m.val := fun i e m he hm => hr i e m he (by simpa using hm)
              split at h
              · rename_i j v hf
                cases h
                obtain ⟨m, e1, e2, e3, e4, e5⟩ := findA_run (kd := kd) es ms.toList 0 _ hl' hr' hf
                refine ⟨if ok then .tuple #[m.val, .bool true] else m.val, ?_, ?_⟩
                · unfold Instr.lookup
                  simp only [Sem.run_bind, run_underlying hu, Result.andThen_ok, Sem.run_pure, checkKey_int hki, run_getMap q2, findKey_int hki e1]
                · cases ok with
                  | true => exact tup2_rel e2 (.val _)
                  | false => exact e2
              · rename_i hf
                cases h
                have e1 := findA_run (kd := kd) es ms.toList 0 _ hl' hr' hf
                refine ⟨if ok then .tuple #[z, .bool false] else z, ?_, ?_⟩
                · unfold Instr.lookup
                  simp only [Sem.run_bind, run_underlying hu, Result.andThen_ok, Sem.run_pure, checkKey_int hki, run_getMap q2, findKey_int hki e1, run_zeroV hz]
                · cases ok with
                  | true => exact tup2_rel (unV_rel z) (.val _)
                  | false => exact unV_rel z
              · cases h
        · cases he
      · cases he
    · cases h
  · cases h

def updA (P : Program) (t : TypeId) (x k v : AV) (H : Hp) : Option Hp :=
  match P.underlying t, x, k with
  | some (.map kt _), .mp b, .val (.int kk kx) => match intKey P kt, H[b]? with
    | some _, some (.amap es) => match findA kk kx es 0 with
      | some (some (i, _)) => some (H.set b (.amap (es.set i (.val (.int kk kx), v))))
      | some none => some (H.set b (.amap (es ++ [(.val (.int kk kx), v)])))
      | none => none
    | _, _ => none
  | _, _, _ => none

theorem updA_run (S : Sim base w0 g H w) {t : TypeId} {x k v : AV} {xv kv vv : Value} {H' : Hp} (h : updA P t x k v H = some H') (hx : R g x xv) (hk : R g k kv) (hv : R g v vv) :
    ∃ w', (Instr.mapUpdate t xv kv vv).run P w = .ok () w' ∧ Sim base w0 g H' w' := by
  unfold updA at h
  split at h
  · rename_i kt et b kk kx hu
    split at h
    · rename_i kd es hkd hb
      cases hk
      have hki := intKey_of hkd
      cases hx with
      | mp hp =>
        rename_i px
        obtain ⟨y, o, q1, q2, q3⟩ := S.obj b _ hb (by simp)
        rw [hp] at q1; cases q1
        have hlt := (S.pos b px hp).2
        cases q3 with
        | amap hl hr hst =>
          rename_i ms clock
          have hl' : es.length = ms.toList.length := by simpa using hl
          have hr' : ∀ (i : Nat) (e : AV × AV) (m : MapEntry), es[i]? = some e → ms.toList[i]? = some m → R g e.1 m.key ∧ R g e.2 m.val := fun i e m he hm => hr i e m he (by simpa using hm)
          split at h
          · rename_i i u hf
            cases h
            obtain ⟨m, e1, e2, e3, e4, e5⟩ := findA_run (kd := kd) es ms.toList 0 _ hl' hr' hf
            have e4' : ms[i]? = some m := by simpa using e4
            refine ⟨w.putObj px (.map (ms.modify i fun e => { e with key := .int kk kx, val := vv }) clock), ?_, ?_⟩
            · unfold Instr.mapUpdate
              have hbits : Instr.sameBits 10000 (.int kk kx) (.int kk kx) = true := by simp [Instr.sameBits]
              simp only [Sem.run_bind, run_underlying hu, Result.andThen_ok, Sem.run_pure, checkKey_int hki, run_getMap q2, findKey_int hki e1, Instr.keyThatStays, e4', Option.map_some, Option.getD_some, e5, hbits, if_true, run_setMap q2]
            · refine S.turn hb (by simp) hp (grownBy_putM w px _) (heap_putM hlt) (.amap (by simpa using hl) (fun j e m' he hm => ?_) (stamped_modify hst e4' e5))
              rw [List.getElem?_set] at he
              rw [Array.getElem?_modify] at hm
              by_cases hij : i = j
              · subst hij
                rw [if_pos rfl] at he
                rw [if_pos rfl, e4'] at hm
                split at he
                · cases he; cases hm; exact ⟨.val _, hv⟩
                · cases he
              · rw [if_neg hij] at he hm
                exact hr j e m' he hm
          · rename_i hf
            cases h
            have e1 := findA_run (kd := kd) es ms.toList 0 _ hl' hr' hf
            refine ⟨w.putObj px (.map (ms.push { key := .int kk kx, val := vv, born := clock }) (clock + 1)), ?_, ?_⟩
            · unfold Instr.mapUpdate
              simp only [Sem.run_bind, run_underlying hu, Result.andThen_ok, checkKey_int hki, run_getMap q2, findKey_int hki e1, run_setMap q2]
            · refine S.turn hb (by simp) hp (grownBy_putM w px _) (heap_putM hlt) (.amap (by simp [hl]) (fun j e m' he hm => ?_) (stamped_push hst (findA_none es ms.toList 0 hl' hr' hf)))
              rw [List.getElem?_append] at he
              rw [Array.getElem?_push] at hm
              by_cases hj : j < es.length
              · rw [if_pos hj] at he
                rw [if_neg (by omega)] at hm
                exact hr j e m' he hm
              · rw [if_neg hj] at he
                by_cases hje : j = es.length
                · subst hje
                  rw [if_pos (by omega)] at hm
                  simp at he hm
                  subst he; subst hm
                  exact ⟨.val _, hv⟩
                · rw [List.getElem?_eq_none (by simp; omega)] at he
                  cases he
          · cases h
    · cases h
  · cases h

def delA (P : Program) (t : TypeId) (x k : AV) (H : Hp) : Option Hp :=
  match P.underlying t, x, k with
  | some (.map kt _), .mp b, .val (.int kk kx) => match intKey P kt, H[b]? with
    | some _, some (.amap es) => match findA kk kx es 0 with
      | some (some (i, _)) => some (H.set b (.amap (es.eraseIdx i)))
      | some none => some (H.set b (.amap es))
      | none => none
    | _, _ => none
  | _, _, _ => none

theorem delA_run (S : Sim base w0 g H w) {t ty t2 : TypeId} {x k : AV} {xv kv : Value} {H' : Hp} (h : delA P t x k H = some H') (hx : R g x xv) (hk : R g k kv) :
    ∃ w', (Builtin.delete_ #[t, t2] ty #[xv, kv]).run P w = .ok (.tuple #[]) w' ∧ Sim base w0 g H' w' := by
  unfold delA at h
  split at h
  · rename_i kt et b kk kx hu
    split at h
    · rename_i kd es hkd hb
      cases hk
      have hki := intKey_of hkd
      cases hx with
      | mp hp =>
        rename_i px
        obtain ⟨y, o, q1, q2, q3⟩ := S.obj b _ hb (by simp)
        rw [hp] at q1; cases q1
        have hlt := (S.pos b px hp).2
        cases q3 with
        | amap hl hr hst =>
          rename_i ms clock
          have hl' : es.length = ms.toList.length := by simpa using hl
          have hr' : ∀ (i : Nat) (e : AV × AV) (m : MapEntry), es[i]? = some e → ms.toList[i]? = some m → R g e.1 m.key ∧ R g e.2 m.val := fun i e m he hm => hr i e m he (by simpa using hm)
          split at h
          · rename_i i u hf
            cases h
            obtain ⟨m, e1, e2, e3, e4, e5⟩ := findA_run (kd := kd) es ms.toList 0 _ hl' hr' hf
            have hi : i < ms.size := by
              have := (List.getElem?_eq_some_iff.1 e4).1
              simpa using this
            refine ⟨w.putObj px (.map (ms.eraseIdxIfInBounds i) clock), ?_, ?_⟩
            · unfold Builtin.delete_
              simp [Sem.run_bind, run_underlying hu, checkKey_int hki, run_getMap q2, findKey_int hki e1, run_setMap q2]
            · refine S.turn hb (by simp) hp (grownBy_putM w px _) (heap_putM hlt) (.amap ?_ (fun j e m' he hm => ?_) (stamped_erase hst))
              · rw [List.length_eraseIdx_of_lt (by omega)]
                simp [Array.eraseIdxIfInBounds, hi, hl]
              · rw [List.getElem?_eraseIdx] at he
                have hm2 : (ms.toList.eraseIdx i)[j]? = some m' := by
                  rw [← hm]
                  simp [Array.eraseIdxIfInBounds, hi, ← Array.getElem?_toList]
                rw [List.getElem?_eraseIdx] at hm2
                split at he
                · rename_i hji
                  rw [if_pos hji] at hm2
                  exact hr' j e m' he hm2
                · rename_i hji
                  rw [if_neg hji] at hm2
                  exact hr' (j + 1) e m' he hm2
          · rename_i hf
            cases h
            have e1 := findA_run (kd := kd) es ms.toList 0 _ hl' hr' hf
            refine ⟨w.putObj px (.map ms clock), ?_, ?_⟩
            · unfold Builtin.delete_
              simp [Sem.run_bind, run_underlying hu, checkKey_int hki, run_getMap q2, findKey_int hki e1, run_setMap q2]
            · exact S.turn hb (by simp) hp (grownBy_putM w px _) (heap_putM hlt) (.amap hl hr hst)
          · cases h
    · cases h
  · cases h

end Go.Proofs.Ytphfdbmbdaninaa.Ab
