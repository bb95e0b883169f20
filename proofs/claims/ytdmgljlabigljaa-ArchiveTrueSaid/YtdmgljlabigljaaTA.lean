/- Operations that are told by what comes of them: look-ups and updates of maps whose keys are plain values, ranges over maps and strings. -/
import Derived.Test.YtdmgljlabigljaaKC
import Derived.Maps.RangeRun
namespace Go.Proofs.Ytdmgljlabigljaa.Ab
open Go Go.RowKit
open Go.MapKept (Stamped)
open Go.ChangeMaps (setBlock)

section
variable {P : Program} {mu : Nat → Bool} {n : Nat} {done : List (Option Tmp)} {rest : List Oper} {T : Env} {H : Hp} {K : Env → Hp → Prop} {ty : TypeId} {pos : String} {aft : Array Edge} {s : Tmp} {op : Op} {gd : Option (Nat × Bool)}
theorem stpOp {Post : AV → Hp → Prop} (hd : dstOk n (some s) = true) (hg : guardA done gd T = some true) (h : OpOK P ⟨some s, op, ty, pos, aft, gd⟩ T H Post) (k : ∀ v H', Post v H' → wpO P mu n none (done ++ [some s]) rest (upd T s v) H' K) :
    wpO P mu n none done (⟨some s, op, ty, pos, aft, gd⟩ :: rest) T H K := ⟨hd, true, hg, fun _ => OpOK.mono h k, fun h => by cases h⟩
theorem stpOpN {Post : AV → Hp → Prop} (hg : guardA done gd T = some true) (h : OpOK P ⟨none, op, ty, pos, aft, gd⟩ T H Post) (k : ∀ v H', Post v H' → wpO P mu n none (done ++ [none]) rest T H' K) :
    wpO P mu n none done (⟨none, op, ty, pos, aft, gd⟩ :: rest) T H K := ⟨rfl, true, hg, fun _ => OpOK.mono h k, fun h => by cases h⟩

theorem OpOK.runs {o : Oper} {k : AV → Hp → Prop} (hnd : ∀ c, o.op ≠ .defer c)
    (h : ∀ (base : Nat) (w0 : World) (g : Gh) (w : World) (a : Act), Sim base w0 g H w → (∀ x ∈ o.op.operands, R g (evA T x) (a.eval x)) → ∃ v z H' g' w', RunsTo P o a w z w' ∧ k v H' ∧ g.le g' ∧ Sim base w0 g' H' w' ∧ R g' v z) : OpOK P o T H k := by
  intro base w0 g w a r S hr next Q hn
  obtain ⟨v, z, H', g', w', hrun, hk, h1, h2, h3⟩ := h base w0 g w a S hr
  have hex : o.semAt (FR r).round a.eval = execOp a.eval o := Oper.semAt_eq _ _ _ hnd
  refine ⟨fun _ _ => trivial, ?_⟩
  rw [hex]
  rcases hrun with hrun | ⟨hrun, rfl⟩
  · rw [hrun]; exact hn v z H' g' w' hk h1 h2 h3
  · rw [hrun]; exact hn v undef H' g' w' hk h1 h2 h3
end

/-! ### keys -/
open Classical in
noncomputable def findV (k : Value) : List MapEntry → Nat → Option (Nat × Value)
  | [], _ => none
  | e :: es, i => if k = e.key then some (i, e.val) else findV k es (i + 1)

open Classical in
/-- what a map wants of the type of its keys -/
structure KeyLaw (P : Program) (kt : TypeId) (ok : Value → Prop) : Prop where
  check : ∀ e v w, ok v → (Instr.checkKey e 10000 kt v).run P w = .ok () w
  eq : ∀ u v w, ok u → ok v → (Op.equal kt u v).run P w = .ok (decide (u = v)) w
  under : ∃ d, P.underlying kt = some d ∧ ∀ u v, ok u → ok v → Instr.sameNow d u v = none ∨ Instr.sameNow d u v = some (decide (u = v))
  bits : ∀ v, ok v → Instr.sameBits 10000 v v = true

section
variable {P : Program} {kt : TypeId} {ok : Value → Prop} {w : World}
theorem findNow_V {d : TypeDesc} {k : Value} (hd : ∀ u v, ok u → ok v → Instr.sameNow d u v = none ∨ Instr.sameNow d u v = some (@decide (u = v) (Classical.propDecidable _))) (hk : ok k) : ∀ (es : List MapEntry) (i : Nat) r, (∀ m ∈ es, ok m.key) → Instr.findNow d k es i = some r → r = findV k es i
  | [], i, r, _, h => by unfold Instr.findNow at h; cases h; rfl
  | e :: es, i, r, ho, h => by
    unfold Instr.findNow at h
    unfold findV
    rcases hd k e.key hk (ho e (by simp)) with h1 | h1
    · rw [h1] at h; cases h
    · rw [h1] at h
      by_cases e1 : k = e.key
      · rw [if_pos e1]
        simp only [e1, decide_true] at h
        cases h; rfl
      · rw [if_neg e1]
        simp only [e1, decide_false] at h
        exact findNow_V hd hk es (i + 1) r (fun m hm => ho m (by simp [hm])) h
theorem findAsking_V (L : KeyLaw P kt ok) {k : Value} (hk : ok k) : ∀ (es : List MapEntry) (i : Nat), (∀ m ∈ es, ok m.key) → (Instr.findAsking kt k es i).run P w = .ok (findV k es i) w
  | [], i, _ => rfl
  | e :: es, i, ho => by
    unfold Instr.findAsking findV
    rw [Sem.run_bind, L.eq k e.key w hk (ho e (by simp))]
    simp only [Result.andThen_ok]
    by_cases e1 : k = e.key
    · rw [if_pos e1]; simp only [e1, decide_true, if_true, Sem.run_pure]
    · rw [if_neg e1]
      simp only [e1, decide_false, Bool.false_eq_true, if_false]
      exact findAsking_V L hk es (i + 1) fun m hm => ho m (by simp [hm])
theorem findKey_V (L : KeyLaw P kt ok) {k : Value} (hk : ok k) (es : List MapEntry) (ho : ∀ m ∈ es, ok m.key) : (Instr.findKey kt k es).run P w = .ok (findV k es 0) w := by
  obtain ⟨d, hu, hd⟩ := L.under
  unfold Instr.findKey
  simp only [Sem.run_bind, run_underlying hu, Result.andThen_ok]
  cases hf : Instr.findNow d k es 0 with
  | some r => rw [findNow_V hd hk es 0 r ho hf]; rfl
  | none => exact findAsking_V L hk es 0 ho
end

/-! ### tables -/
section
variable {κ ε : Type} [DecidableEq κ]
def lookK (k : κ) : List (κ × ε) → Option ε
  | [] => none
  | p :: L => if p.1 = k then some p.2 else lookK k L
def updK (k : κ) (e : ε) : List (κ × ε) → List (κ × ε)
  | [] => [(k, e)]
  | p :: L => if p.1 = k then (k, e) :: L else p :: updK k e L
def tabA (ka : κ → AV) (va : ε → AV) (L : List (κ × ε)) : List (AV × AV) := L.map fun p => (ka p.1, va p.2)

/-- how a key is told -/
structure KeyRep (P : Program) (kt : TypeId) (ka : κ → AV) (kv : κ → Value) : Prop where
  law : KeyLaw P kt fun v => ∃ k, v = kv k
  to : ∀ g k v, R g (ka k) v → v = kv k
  of : ∀ g k, R g (ka k) (kv k)
  inj : ∀ k k', kv k = kv k' → k = k'

variable {P : Program} {kt : TypeId} {ka : κ → AV} {kv : κ → Value} {va : ε → AV} {g : Gh}
theorem find_tab (hK : KeyRep P kt ka kv) (k : κ) : ∀ (L : List (κ × ε)) (ms : List MapEntry) (i : Nat), (tabA ka va L).length = ms.length →
    (∀ (j : Nat) (e : AV × AV) (m : MapEntry), (tabA ka va L)[j]? = some e → ms[j]? = some m → R g e.1 m.key ∧ R g e.2 m.val) →
    (lookK k L = none ∧ findV (kv k) ms i = none ∧ (∀ m ∈ ms, m.key ≠ kv k) ∧ ∀ e, updK k e L = L ++ [(k, e)]) ∨
      ∃ j e m, lookK k L = some e ∧ ms[j]? = some m ∧ m.key = kv k ∧ R g (va e) m.val ∧ findV (kv k) ms i = some (i + j, m.val) ∧ j < L.length ∧ ∀ e', updK k e' L = L.set j (k, e')
  | [], ms, i, hl, _ => by
    have : ms = [] := by cases ms with
      | nil => rfl
      | cons _ _ => simp [tabA] at hl
    subst this
    exact .inl ⟨rfl, rfl, by simp, fun _ => rfl⟩
  | p :: L, ms, i, hl, hr => by
    cases ms with
    | nil => simp [tabA] at hl
    | cons m ms =>
      obtain ⟨h1, h2⟩ := hr 0 (ka p.1, va p.2) m rfl rfl
      have hm := hK.to g p.1 m.key h1
      by_cases e : p.1 = k
      · refine .inr ⟨0, p.2, m, by unfold lookK; rw [if_pos e], rfl, by rw [hm, e], h2, ?_, by simp, fun e' => by unfold updK; rw [if_pos e]; rfl⟩
        unfold findV
        rw [if_pos (by rw [hm, e])]; rfl
      · have hne : kv k ≠ m.key := fun h => e (hK.inj _ _ (by rw [← hm, ← h]))
        have ih := find_tab hK k L ms (i + 1) (by simpa [tabA] using hl) fun j x m' hx hm' => hr (j + 1) x m' (by simpa [tabA] using hx) (by simpa using hm')
        rcases ih with ⟨a1, a2, a3, a4⟩ | ⟨j, x, m', a1, a2, a3, a4, a5, a6, a7⟩
        · refine .inl ⟨by unfold lookK; rw [if_neg e]; exact a1, by unfold findV; rw [if_neg hne]; exact a2, fun m' hm' => ?_, fun x => by unfold updK; rw [if_neg e, a4]; rfl⟩
          rcases List.mem_cons.1 hm' with rfl | hm'
          · exact fun h => hne h.symm
          · exact a3 m' hm'
        · refine .inr ⟨j + 1, x, m', by unfold lookK; rw [if_neg e]; exact a1, by simpa using a2, a3, a4, ?_, by simp; exact a6, fun x => by unfold updK; rw [if_neg e, a7]; rfl⟩
          unfold findV
          rw [if_neg hne, a5, Nat.add_right_comm]; rfl
end

/-- the entries of a map, whether a range over it is on or not -/
def entsM (H : Hp) (b : Nat) : Option (List (AV × AV)) :=
  match H[b]? with
  | some (.amap es) => some es
  | some (.amapC es _ _) => some es
  | _ => none

section
variable {κ ε : Type} [DecidableEq κ] {P : Program} {kt et : TypeId} {ka : κ → AV} {kv : κ → Value} {va : ε → AV} {T : Env} {H : Hp} {ty : TypeId} {pos : String} {aft : Array Edge} {d : Option Tmp} {gd : Option (Nat × Bool)} {t : TypeId} {x k v it : Operand} {b : Nat}

theorem entsM_obj {base : Nat} {w0 w : World} {g : Gh} (S : Sim base w0 g H w) {es : List (AV × AV)} (hb : entsM H b = some es) {px : Nat} (hp : g.ph b = some px) :
    ∃ ms clock, w.heap[px]? = some (.map ms clock) ∧ es.length = ms.size ∧ (∀ (i : Nat) (e : AV × AV) (m : MapEntry), es[i]? = some e → ms[i]? = some m → R g e.1 m.key ∧ R g e.2 m.val) ∧ Stamped ms clock := by
  unfold entsM at hb
  split at hb
  · rename_i es' he
    cases hb
    obtain ⟨y, o, q1, q2, q3⟩ := S.obj b _ he (by simp)
    rw [hp] at q1; cases q1
    cases q3 with
    | amap hl hr hs => exact ⟨_, _, q2, hl, hr, hs⟩
  · rename_i es' ss c he
    cases hb
    obtain ⟨y, o, q1, q2, q3⟩ := S.obj b _ he (by simp)
    rw [hp] at q1; cases q1
    cases q3 with
    | amapC hl hr hs hss => exact ⟨_, _, q2, hl, hr, hs⟩
  · cases hb

def lookR (va : ε → AV) (z : Value) (ok : Bool) : Option ε → AV
  | some e => if ok then .tup [va e, .val (.bool true)] else va e
  | none => if ok then .tup [unV z, .val (.bool false)] else unV z

theorem OpOK.look {L : List (κ × ε)} {ok : Bool} {k0 : κ} {z : Value} (hu : P.underlying t = some (.map kt et)) (hz : zeroV P et = some z) (hK : KeyRep P kt ka kv) (hx : evA T x = .mp b) (hk : evA T k = ka k0) (hb : entsM H b = some (tabA ka va L)) :
    OpOK P ⟨d, .lookup t x k ok, ty, pos, aft, gd⟩ T H fun v H' => v = lookR va z ok (lookK k0 L) ∧ H' = H := by
  refine OpOK.runs (fun c h => by cases h) fun base w0 g w a S hr => ?_
  have h1 := hr x (by simp [Op.operands])
  have h2 := hr k (by simp [Op.operands])
  rw [hx] at h1; rw [hk] at h2
  have e2 := hK.to _ _ _ h2
  generalize hxv : a.eval x = xv at h1
  cases h1 with
  | mp hp =>
    rename_i px
    obtain ⟨ms, clock, q2, hl, hrr, hst⟩ := entsM_obj S hb hp
    have hl' : (tabA ka va L).length = ms.toList.length := by simpa using hl
    have hr' : ∀ (i : Nat) (e : AV × AV) (m : MapEntry), (tabA ka va L)[i]? = some e → ms.toList[i]? = some m → R g e.1 m.key ∧ R g e.2 m.val := fun i e m he hm => hrr i e m he (by simpa using hm)
    have hlen9 : L.length = ms.toList.length := by simpa [tabA] using hl'
    have hok : ∀ m ∈ ms.toList, ∃ k', m.key = kv k' := fun m hm => by
      obtain ⟨i, hi⟩ := List.getElem?_of_mem hm
      have hlt := (List.getElem?_eq_some_iff.1 hi).1
      obtain ⟨p, hp2⟩ := (⟨_, List.getElem?_eq_getElem (l := L) (i := i) (by rw [hlen9]; exact hlt)⟩ : ∃ p, L[i]? = some p)
      exact ⟨p.1, hK.to g p.1 m.key (hr' i (ka p.1, va p.2) m (by simp [tabA, hp2]) hi).1⟩
    have hfk := findKey_V (w := w) hK.law ⟨k0, rfl⟩ ms.toList hok
    have hck : (Instr.checkKey ms.isEmpty 10000 kt (kv k0)).run P w = .ok () w := hK.law.check _ _ w ⟨k0, rfl⟩
    rcases find_tab (va := va) (g := g) hK k0 L ms.toList 0 hl' hr' with ⟨a1, a2, _, _⟩ | ⟨j, e, m, a1, a2, a3, a4, a5, _, _⟩
    · refine ⟨_, if ok then .tuple #[z, .bool false] else z, H, g, w, .inl ?_, ⟨rfl, rfl⟩, Gh.le.refl g, S, ?_⟩
      · simp only [execOp, Sem.run_bind]
        unfold Instr.lookup
        simp only [hxv, e2, Sem.run_bind, run_underlying hu, Result.andThen_ok, Sem.run_pure, run_getMap q2, hck, hfk, a2, run_zeroV hz]
      · rw [a1]
        unfold lookR
        cases ok with
        | true => exact tup2_rel (unV_rel z) (.val _)
        | false => exact unV_rel z
    · refine ⟨_, if ok then .tuple #[m.val, .bool true] else m.val, H, g, w, .inl ?_, ⟨rfl, rfl⟩, Gh.le.refl g, S, ?_⟩
      · simp only [execOp, Sem.run_bind]
        unfold Instr.lookup
        simp only [hxv, e2, Sem.run_bind, run_underlying hu, Result.andThen_ok, Sem.run_pure, run_getMap q2, hck, hfk, a5]
      · rw [a1]
        unfold lookR
        cases ok with
        | true => exact tup2_rel a4 (.val _)
        | false => exact a4

theorem OpOK.update {L : List (κ × ε)} {k0 : κ} {e0 : ε} (hu : P.underlying t = some (.map kt et)) (hK : KeyRep P kt ka kv) (hx : evA T x = .mp b) (hk : evA T k = ka k0) (hv : evA T v = va e0) (hb : H[b]? = some (.amap (tabA ka va L))) :
    OpOK P ⟨d, .mapUpdate t x k v, ty, pos, aft, gd⟩ T H fun v H' => v = .val undef ∧ H' = H.set b (.amap (tabA ka va (updK k0 e0 L))) := by
  refine OpOK.runs (fun c h => by cases h) fun base w0 g w a S hr => ?_
  have h1 := hr x (by simp [Op.operands])
  have h2 := hr k (by simp [Op.operands])
  have h3 := hr v (by simp [Op.operands])
  rw [hx] at h1; rw [hk] at h2; rw [hv] at h3
  have e2 := hK.to _ _ _ h2
  rw [e2] at h2
  generalize hxv : a.eval x = xv at h1
  generalize hvv : a.eval v = vv at h3
  cases h1 with
  | mp hp =>
    rename_i px
    obtain ⟨y, o, q1, q2, q3⟩ := S.obj b _ hb (by simp)
    rw [hp] at q1; cases q1
    have hlt := (S.pos b px hp).2
    cases q3 with
    | amap hl hrr hst =>
    rename_i ms clock
    have hl' : (tabA ka va L).length = ms.toList.length := by simpa using hl
    have hr' : ∀ (i : Nat) (e : AV × AV) (m : MapEntry), (tabA ka va L)[i]? = some e → ms.toList[i]? = some m → R g e.1 m.key ∧ R g e.2 m.val := fun i e m he hm => hrr i e m he (by simpa using hm)
    have hlen9 : L.length = ms.toList.length := by simpa [tabA] using hl'
    have hok : ∀ m ∈ ms.toList, ∃ k', m.key = kv k' := fun m hm => by
      obtain ⟨i, hi⟩ := List.getElem?_of_mem hm
      have hlt := (List.getElem?_eq_some_iff.1 hi).1
      obtain ⟨p, hp2⟩ := (⟨_, List.getElem?_eq_getElem (l := L) (i := i) (by rw [hlen9]; exact hlt)⟩ : ∃ p, L[i]? = some p)
      exact ⟨p.1, hK.to g p.1 m.key (hr' i (ka p.1, va p.2) m (by simp [tabA, hp2]) hi).1⟩
    have hfk := findKey_V (w := w) hK.law ⟨k0, rfl⟩ ms.toList hok
    have hck : (Instr.checkKey false 10000 kt (kv k0)).run P w = .ok () w := hK.law.check _ _ w ⟨k0, rfl⟩
    rcases find_tab (va := va) (g := g) hK k0 L ms.toList 0 hl' hr' with ⟨a1, a2, a2', a3⟩ | ⟨i, e, m, a1, a2, a3, a4, a5, a6, a7⟩
    · refine ⟨_, undef, _, g, w.putObj px (.map (ms.push { key := kv k0, val := vv, born := clock }) (clock + 1)), .inr ⟨?_, rfl⟩, ⟨rfl, rfl⟩, Gh.le.refl g, ?_, .val _⟩
      · simp only [execOp, Sem.run_bind]
        unfold Instr.mapUpdate
        simp only [hxv, hvv, e2, Sem.run_bind, run_underlying hu, Result.andThen_ok, Sem.run_pure, run_getMap q2, hck, hfk, a2, run_setMap q2]
      · refine S.turn hb (by simp) hp (grownBy_putM w px _) (heap_putM hlt) (.amap (by simp [a3, tabA] at hl ⊢; exact hl) (fun j e m' he hm => ?_) (stamped_push hst a2'))
        rw [a3] at he
        unfold tabA at he
        rw [List.map_append, List.getElem?_append] at he
        rw [Array.getElem?_push] at hm
        have hl2 : (L.map fun p => (ka p.1, va p.2)).length = ms.size := hl
        rw [hl2] at he
        by_cases hj : j < ms.size
        · rw [if_pos hj] at he
          rw [if_neg (by omega)] at hm
          exact hrr j e m' he hm
        · rw [if_neg hj] at he
          by_cases hje : j = ms.size
          · subst hje
            rw [if_pos rfl] at hm
            rw [Nat.sub_self] at he
            simp at he hm
            subst he; subst hm
            exact ⟨h2, h3⟩
          · rw [List.getElem?_eq_none (by simp; omega)] at he
            cases he
    · have e4' : ms[i]? = some m := by simpa using a2
      refine ⟨_, undef, _, g, w.putObj px (.map (ms.modify i fun e => { e with key := kv k0, val := vv }) clock), .inr ⟨?_, rfl⟩, ⟨rfl, rfl⟩, Gh.le.refl g, ?_, .val _⟩
      · simp only [execOp, Sem.run_bind]
        unfold Instr.mapUpdate
        simp only [hxv, hvv, e2, Sem.run_bind, run_underlying hu, Result.andThen_ok, Sem.run_pure, run_getMap q2, hck, hfk, a5, Nat.zero_add, Instr.keyThatStays, e4', Option.map_some, Option.getD_some, a3, hK.law.bits _ ⟨k0, rfl⟩, if_true, run_setMap q2]
      · refine S.turn hb (by simp) hp (grownBy_putM w px _) (heap_putM hlt) (.amap (by simp [a7, tabA] at hl ⊢; exact hl) (fun j e m' he hm => ?_) (stamped_modify hst e4' a3))
        rw [a7] at he
        unfold tabA at he
        rw [List.map_set, List.getElem?_set] at he
        rw [Array.getElem?_modify] at hm
        by_cases hij : i = j
        · subst hij
          rw [if_pos rfl] at he
          rw [if_pos rfl, e4'] at hm
          split at he
          · cases he; cases hm; exact ⟨h2, h3⟩
          · cases he
        · rw [if_neg hij] at he hm
          exact hrr j e m' he hm
end

end Go.Proofs.Ytdmgljlabigljaa.Ab
