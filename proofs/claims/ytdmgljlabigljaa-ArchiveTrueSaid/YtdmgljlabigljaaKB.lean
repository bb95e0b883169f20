/- Calls, and regions of operations in the order of the text. Awp: an abstract weakest precondition of code, its rules, and a function's contract out of its body. Regions that draw their order of evaluation: the order does not matter. Regions that draw their order of evaluation: whatever the order, it comes to what the order of the text comes to. Regions that draw their order of evaluation: the theorem, and its rule for code. A function's contract out of its body; results that never turn again. Ranges over functions: the statement, and a round. -/
import Derived.Test.YtdmgljlabigljaaKA
import Derived.RangeFuncRecord
import Derived.OrdersIn
namespace Go.Proofs.Ytdmgljlabigljaa.Ab
open Go Go.RowKit

variable {base : Nat} {w0 w w' : World} {g : Gh} {H : Hp} {P : Program}

/-- all functions, no depth; in the round of the loop r -/
def FR (r : Option Nat) : Fence := { Fence.wide with round := r }

def callable (P : Program) (k : FuncId) : Bool :=
  match P.funcs[k]? with
  | some fn => fn.body.isSome && !(fn.name == "runtime.NumGoroutine")
  | none => false

/-- a call of function f comes to a value and a heap of which Post holds -/
def ACalls (P : Program) (f : FuncId) (args : List AV) (H : Hp) (Post : AV → Hp → Prop) : Prop :=
  callable P f = true ∧ ∀ (base : Nat) (w0 : World) (g : Gh) (w : World) (vs : Array Value), Sim base w0 g H w → RCells g args vs →
    CallsIn Fence.wide 0 P f vs w fun e w' => ∃ v a H' g', e = .returned v ∧ Post a H' ∧ g.le g' ∧ Sim base w0 g' H' w' ∧ R g' a v

/-- a call of the yield of the loop b -/
def AYield (P : Program) (b : Nat) (args : List AV) (H : Hp) (Post : AV → Hp → Prop) : Prop :=
  ∀ (base : Nat) (w0 : World) (g : Gh) (w : World) (vs : Array Value) (l : Nat), Sim base w0 g H w → RCells g args vs → g.ph b = some l →
    ∃ fn tmps assign body, (Instr.yield l vs).run P w = .ok (.round l fn tmps assign body) w ∧
      RoundIn Fence.wide 0 P l fn tmps assign body w fun e w' => ∃ v a H' g', e = .returned v ∧ Post a H' ∧ g.le g' ∧ Sim base w0 g' H' w' ∧ R g' a v

def ACallV (P : Program) (fv : AV) (args : List AV) (H : Hp) (Post : AV → Hp → Prop) : Prop :=
  match fv with
  | .fn (.func k) cap => ACalls P k (args ++ cap) H Post
  | .mth k pre => ACalls P k (pre ++ args) H Post
  | .fn (.yield b) [] => AYield P b args H Post
  | _ => False

theorem ACalls.mono {f : FuncId} {args : List AV} {Post Post' : AV → Hp → Prop} (h : ACalls P f args H Post) (hp : ∀ a H', Post a H' → Post' a H') : ACalls P f args H Post' :=
  ⟨h.1, fun base w0 g w vs S hr => (h.2 base w0 g w vs S hr).mono fun _ _ ⟨v, a, H', g', h1, h2, h3⟩ => ⟨v, a, H', g', h1, hp a H' h2, h3⟩⟩

theorem AYield.mono {b : Nat} {args : List AV} {Post Post' : AV → Hp → Prop} (h : AYield P b args H Post) (hp : ∀ a H', Post a H' → Post' a H') : AYield P b args H Post' :=
  fun base w0 g w vs l S hr hl => by
    obtain ⟨fn, tmps, assign, body, h1, h2⟩ := h base w0 g w vs l S hr hl
    exact ⟨fn, tmps, assign, body, h1, h2.mono fun _ _ ⟨v, a, H', g', k1, k2, k3⟩ => ⟨v, a, H', g', k1, hp a H' k2, k3⟩⟩

theorem ACallV.mono {fv : AV} {args : List AV} {Post Post' : AV → Hp → Prop} (h : ACallV P fv args H Post) (hp : ∀ a H', Post a H' → Post' a H') : ACallV P fv args H Post' := by
  unfold ACallV at h ⊢
  split at h
  · exact ACalls.mono h hp
  · exact ACalls.mono h hp
  · exact AYield.mono h hp
  · exact h.elim

theorem RCells.append {cs ds : List AV} {vs us : Array Value} (h : RCells g cs vs) (k : RCells g ds us) : RCells g (cs ++ ds) (vs ++ us) := by
  have h1 := h.size
  have h2 := k.size
  refine ⟨by simp [h1, h2], fun i c v hc hv => ?_⟩
  rw [List.getElem?_append] at hc
  rw [Array.getElem?_append] at hv
  by_cases hi : i < cs.length
  · rw [if_pos hi] at hc
    rw [if_pos (by omega)] at hv
    exact h.cell i c v hc hv
  · rw [if_neg hi] at hc
    rw [if_neg (by omega), ← h1] at hv
    exact k.cell _ c v hc hv

def callOf (o : Oper) : Option (Operand × Array Operand) :=
  match o.op with
  | .call ⟨.value f, args, _⟩ => some (f, args)
  | _ => none

theorem callOf_eq {o : Oper} {f : Operand} {args : Array Operand} (h : callOf o = some (f, args)) : ∃ aT, o.op = .call ⟨.value f, args, aT⟩ := by
  unfold callOf at h
  split at h
  · rename_i f' args' aT e
    cases h
    exact ⟨aT, e⟩
  · cases h

/-- the machine's word for one operation: it ends in a value of which k holds -/
def OpOK (P : Program) (o : Oper) (T : Env) (H : Hp) (k : AV → Hp → Prop) : Prop :=
  ∀ (base : Nat) (w0 : World) (g : Gh) (w : World) (a : Act) (r : Option Nat), Sim base w0 g H w → (∀ x ∈ o.op.operands, R g (evA T x) (a.eval x)) →
    ∀ (next : Act → World → Prop) (Q : Exit → Act → World → Prop),
      (∀ v z H' g' w', k v H' → g.le g' → Sim base w0 g' H' w' → R g' v z → next (a.put o.dst z) w') → o.wpIn (FR r) 0 P a w next Q

theorem OpOK.call {o : Oper} {f : Operand} {args : Array Operand} {T : Env} {k : AV → Hp → Prop} (ho : callOf o = some (f, args)) (h : ACallV P (evA T f) (args.toList.map (evA T)) H k) : OpOK P o T H k := by
  obtain ⟨aT, ho⟩ := callOf_eq ho
  intro base w0 g w a r S hr next Q hn
  have hf := hr f (by simp [ho, Op.operands, Call.operands])
  obtain ⟨hl, hp⟩ := list_rel (g := g) (T := T) (a := a) args (fun x hx => hr x (by simp [ho, Op.operands, Call.operands, hx]))
  have hargs : RCells g (args.toList.map (evA T)) (args.map a.eval) := ⟨hl, hp⟩
  have hex : o.semAt (FR r).round a.eval = execOp a.eval o := Oper.semAt_eq _ _ _ (by intro c hc; rw [ho] at hc; cases hc)
  refine ⟨fun _ _ => trivial, ?_⟩
  rw [hex]
  unfold ACallV at h
  split at h
  · rename_i k' cap e
    rw [e] at hf
    generalize hfv : a.eval f = fv at hf
    cases hf with
    | fn hy hcl hcr =>
      rename_i vs
      obtain ⟨hc1, hc2⟩ := h
      have hcall := hc2 base w0 g w (args.map a.eval ++ vs) S (hargs.append ⟨hcl, hcr⟩)
      have hrun : (execOp a.eval o).run P w = .ok (.enter k' (args.map a.eval ++ vs)) w := by
        unfold callable at hc1
        split at hc1
        · rename_i fn hfn
          simp only [Bool.and_eq_true, Bool.not_eq_true'] at hc1
          have hb : fn.body ≠ none := by intro hb; simp [hb] at hc1
          have hne : fn.name ≠ "runtime.NumGoroutine" := by simpa using hc1.2
          simp [execOp, ho, resolve, Deferred.ofValue, hfv, invoke, callFunc, hfn, hne, hb]
        · cases hc1
      rw [hrun, Oper.uponIn_enter]
      refine ⟨fun h => by simp [FR, Fence.wide] at h, ?_⟩
      refine (CallsIn.mono hcall fun e w' ⟨v, a', H', g', h1, h2, h3, h4, h5⟩ => ?_ : CallsIn Fence.wide 0 P k' (args.map a.eval ++ vs) w _)
      subst h1
      exact hn a' v H' g' w' h2 h3 h4 h5
  · rename_i k' pre e
    rw [e] at hf
    generalize hfv : a.eval f = fv at hf
    cases hf with
    | mth hcl hcr =>
      rename_i vs
      obtain ⟨hc1, hc2⟩ := h
      have hcall := hc2 base w0 g w (vs ++ args.map a.eval) S (RCells.append ⟨hcl, hcr⟩ hargs)
      have hrun : (execOp a.eval o).run P w = .ok (.enter k' (vs ++ args.map a.eval)) w := by
        unfold callable at hc1
        split at hc1
        · rename_i fn hfn
          simp only [Bool.and_eq_true, Bool.not_eq_true'] at hc1
          have hb : fn.body ≠ none := by intro hb; simp [hb] at hc1
          have hne : fn.name ≠ "runtime.NumGoroutine" := by simpa using hc1.2
          simp [execOp, ho, resolve, Deferred.ofValue, hfv, invoke, callFunc, hfn, hne, hb]
        · cases hc1
      rw [hrun, Oper.uponIn_enter]
      refine ⟨fun h => by simp [FR, Fence.wide] at h, ?_⟩
      refine (CallsIn.mono hcall fun e w' ⟨v, a', H', g', h1, h2, h3, h4, h5⟩ => ?_ : CallsIn Fence.wide 0 P k' (vs ++ args.map a.eval) w _)
      subst h1
      exact hn a' v H' g' w' h2 h3 h4 h5
  · rename_i b e
    rw [e] at hf
    generalize hfv : a.eval f = fv at hf
    cases hf with
    | fn hy _ _ => exact absurd rfl (hy b)
    | yld hb =>
      rename_i l
      obtain ⟨fn, tmps, assign, body, h1, h2⟩ := h base w0 g w (args.map a.eval) l S hargs hb
      have hrun : (execOp a.eval o).run P w = .ok (.round l fn tmps assign body) w := by
        simp [execOp, ho, resolve, Deferred.ofValue, hfv, invoke, h1]
      rw [hrun, Oper.uponIn_round]
      refine ⟨fun h => by simp [FR, Fence.wide] at h, ?_⟩
      refine (RoundIn.mono h2 fun e w' ⟨v, a', H', g', k1, k2, k3, k4, k5⟩ => ?_ : RoundIn Fence.wide 0 P l fn tmps assign body w _)
      subst k1
      exact hn a' v H' g' w' k2 k3 k4 k5
  · exact h.elim

theorem OpOK.step {mu : Nat → Bool} {o : Oper} {T : Env} {k : AV → Hp → Prop} {v : AV} {H' : Hp} (h : stepA P mu o T H = some (v, H')) (hk : k v H') : OpOK P o T H k := by
  intro base w0 g w a r S hr next Q hn
  obtain ⟨z, g', w', hrun, h1, h2, h3⟩ := stepA_sound S h hr
  have hnd : ∀ c, o.op ≠ .defer c := by
    intro c hc
    simp [stepA, hc] at h
  have hex : o.semAt (FR r).round a.eval = execOp a.eval o := Oper.semAt_eq _ _ _ hnd
  refine ⟨fun _ _ => trivial, ?_⟩
  rw [hex]
  rcases hrun with hrun | ⟨hrun, rfl⟩
  · rw [hrun]; exact hn v z H' g' w' hk h1 h2 h3
  · rw [hrun]; exact hn v undef H' g' w' hk h1 h2 h3

/-! ### the operations of a region -/

def upd (T : Env) (d : Nat) (v : AV) : Env := fun s => if s = d then v else T s

def putA (T : Env) : Option Tmp → AV → Env
  | none, _ => T
  | some d, v => upd T d v

def dstOk (n : Nat) : Option Tmp → Bool
  | none => true
  | some d => decide (d < n)

theorem TRel.put {n : Nat} {T : Env} {a : Act} {dst : Option Tmp} {v : AV} {z : Value} (h : TRel g n T a.tmps) (hd : dstOk n dst = true) (hv : R g v z) : TRel g n (putA T dst v) (a.put dst z).tmps := by
  cases dst with
  | none => exact h
  | some d =>
    have hd' : d < n := by simpa [dstOk] using hd
    have hlt : d < a.tmps.size := by rw [h.size]; exact hd'
    refine ⟨by simp [Act.put, h.size], fun t => ?_⟩
    simp only [putA, upd, Act.put, Array.getD_eq_getD_getElem?, Array.getElem?_setIfInBounds]
    by_cases e : t = d
    · subst e
      rw [if_pos rfl, if_pos rfl, if_pos hlt]
      exact hv
    · rw [if_neg e, if_neg (fun h => e h.symm)]
      have := h.slot t
      rwa [Array.getD_eq_getD_getElem?] at this

/-- is the operation wanted? -/
def guardA (done : List (Option Tmp)) (gd : Option (Nat × Bool)) (T : Env) : Option Bool :=
  match gd with
  | none => some true
  | some (j, want) => match done[j]? with
    | some (some s) => match T s with
      | .val (.bool t) => some (t == want)
      | .val _ => some false
      | _ => none
    | _ => none

theorem guardA_wanted {n : Nat} {ops : List Oper} {done : List (Option Tmp)} {o : Oper} {rest : List Oper} {T : Env} {a : Act} {b : Bool} (hT : TRel g n T a.tmps)
    (hops : ops.map (·.dst) = done ++ (o :: rest).map (·.dst)) (hn : ∀ d ∈ done, dstOk n d = true) (h : guardA done o.guard T = some b) : Region.wanted o (yielded ops.toArray a.tmps) = b := by
  unfold guardA at h
  unfold Region.wanted
  split at h
  · rename_i e
    rw [e]
    cases h
    rfl
  · rename_i j want e
    rw [e]
    split at h
    · rename_i s hs
      have hj : j < done.length := (List.getElem?_eq_some_iff.1 hs).1
      have hdst : (ops.toArray[j]?).bind (·.dst) = some s := by
        have : (ops.map (·.dst))[j]? = some (some s) := by rw [hops, List.getElem?_append_left hj]; exact hs
        rw [List.getElem?_map, Option.map_eq_some_iff] at this
        obtain ⟨x, hx, hd⟩ := this
        simp [hx, hd]
      have hsn : s < n := by
        have := hn (some s) (List.mem_of_getElem? hs)
        simpa [dstOk] using this
      have hlt : s < a.tmps.size := by rw [hT.size]; exact hsn
      have hslot := hT.slot s
      rw [Array.getD_eq_getD_getElem?] at hslot
      obtain ⟨x, hx⟩ : ∃ x, a.tmps[s]? = some x := ⟨_, Array.getElem?_eq_getElem hlt⟩
      rw [hx, Option.getD_some] at hslot
      simp only [yielded, hdst, Option.bind_some, hx]
      split at h
      · rename_i t et
        rw [et] at hslot
        cases hslot
        cases h
        simp
      · rename_i v hnb ev
        rw [ev] at hslot
        cases hslot
        cases h
        cases x <;> first | rfl | exact absurd rfl (hnb _ )
      · cases h
    · cases h

/-- what an operation comes to -/
def PerfTo (P : Program) (mu : Nat → Bool) (o : Oper) (T : Env) (H : Hp) (v : AV) (H' : Hp) : Prop :=
  match callOf o with
  | some (f, args) => ACallV P (evA T f) (args.toList.map (evA T)) H fun v1 H1 => v1 = v ∧ H1 = H'
  | none => stepA P mu o T H = some (v, H')

theorem PerfTo.ok {mu : Nat → Bool} {o : Oper} {T : Env} {v : AV} {H' : Hp} (h : PerfTo P mu o T H v H') : OpOK P o T H fun v1 H1 => v1 = v ∧ H1 = H' := by
  unfold PerfTo at h
  split at h
  · rename_i f args e; exact OpOK.call e h
  · exact OpOK.step h ⟨rfl, rfl⟩

/-- a region that draws its order: which operations may turn the heap; which look at blocks alone that no operation turns, and so may stand anywhere; these blocks -/
structure Draw where
  ev : Nat → Bool
  rf : Nat → Bool
  keep : Nat → Bool

def Draw.of (ev : Nat → Bool) : Draw := ⟨ev, fun _ => false, fun _ => false⟩
def Draw.agree (W : Draw) (H H2 : Hp) : Prop := ∀ b, W.keep b = true → H2[b]? = H[b]?

theorem Draw.agree.refl (W : Draw) (H : Hp) : W.agree H H := fun _ _ => rfl
theorem Draw.agree.symm {W : Draw} {H H2 : Hp} (h : W.agree H H2) : W.agree H2 H := fun b hb => (h b hb).symm
theorem Draw.agree.trans {W : Draw} {H H2 H3 : Hp} (h : W.agree H H2) (k : W.agree H2 H3) : W.agree H H3 := fun b hb => (k b hb).trans (h b hb)

def okD (P : Program) (mu : Nat → Bool) (d : Option Draw) (i : Nat) (o : Oper) (T : Env) (H : Hp) (v : AV) (H' : Hp) : Prop :=
  match d with
  | none => True
  | some W => (W.ev i = false → H' = H) ∧ W.agree H H' ∧ (W.rf i = true → ∀ H2, W.agree H H2 → PerfTo P mu o T H2 v H2)

def Perf (P : Program) (mu : Nat → Bool) (d : Option Draw) (i : Nat) (o : Oper) (T : Env) (H : Hp) (k : AV → Hp → Prop) : Prop :=
  match d with
  | none => OpOK P o T H k
  | some W => ∃ v H', PerfTo P mu o T H v H' ∧ okD P mu (some W) i o T H v H' ∧ k v H'

theorem OpOK.mono {o : Oper} {T : Env} {H : Hp} {k k' : AV → Hp → Prop} (h : OpOK P o T H k) (hk : ∀ v H', k v H' → k' v H') : OpOK P o T H k' :=
  fun base w0 g w a r S hr next Q hn => h base w0 g w a r S hr next Q fun v z H' g' w' h1 => hn v z H' g' w' (hk v H' h1)

theorem Perf.mono {mu : Nat → Bool} {d : Option Draw} {i : Nat} {o : Oper} {T : Env} {k k' : AV → Hp → Prop} (h : Perf P mu d i o T H k) (hk : ∀ v H', k v H' → k' v H') : Perf P mu d i o T H k' := by
  unfold Perf at h ⊢
  split
  · exact OpOK.mono h hk
  · obtain ⟨v, H', h1, h2, h3⟩ := h
    exact ⟨v, H', h1, h2, hk _ _ h3⟩

theorem Perf.of {mu : Nat → Bool} {d : Option Draw} {i : Nat} {o : Oper} {T : Env} {k : AV → Hp → Prop} {v : AV} {H' : Hp} (h : PerfTo P mu o T H v H') (ho : okD P mu d i o T H v H') (hk : k v H') : Perf P mu d i o T H k := by
  cases d with
  | some W => exact ⟨v, H', h, ho, hk⟩
  | none => exact OpOK.mono h.ok fun v1 H1 ⟨e1, e2⟩ => by subst e1; subst e2; exact hk

theorem Perf.ok {mu : Nat → Bool} {d : Option Draw} {i : Nat} {o : Oper} {T : Env} {k : AV → Hp → Prop} (h : Perf P mu d i o T H k) : OpOK P o T H k := by
  unfold Perf at h
  split at h
  · exact h
  · obtain ⟨v, H', h1, _, h2⟩ := h
    intro base w0 g w a r S hr next Q hn
    exact h1.ok base w0 g w a r S hr next Q fun v1 z H1 g' w' ⟨e1, e2⟩ hg S' hR => by subst e1; subst e2; exact hn _ z _ g' w' h2 hg S' hR

def wpO (P : Program) (mu : Nat → Bool) (n : Nat) (d : Option Draw) : List (Option Tmp) → List Oper → Env → Hp → (Env → Hp → Prop) → Prop
  | _, [], T, H, K => K T H
  | done, o :: rest, T, H, K => dstOk n o.dst = true ∧ ∃ b, guardA done o.guard T = some b ∧
      (b = true → Perf P mu d done.length o T H fun v H' => wpO P mu n d (done ++ [o.dst]) rest (putA T o.dst v) H' K) ∧
      (b = false → wpO P mu n d (done ++ [o.dst]) rest (putA T o.dst (.val undef)) H K)

theorem wpO_sound {mu : Nat → Bool} {n : Nat} {d : Option Draw} {ops : List Oper} {r : Option Nat} {Q : Exit → Act → World → Prop} {base : Nat} {w0 : World} {ds : List Deferred} {g0 : Gh} {K : Env → Hp → Prop}
    (hQ : ∀ T H g w a, K T H → g0.le g → Sim base w0 g H w → TRel g n T a.tmps → a.defers = ds → Q .normal a w) :
    ∀ (l : List Oper) (done : List (Option Tmp)) (T : Env) (H : Hp) (g : Gh) (w : World) (a : Act), ops.map (·.dst) = done ++ l.map (·.dst) → (∀ d ∈ done, dstOk n d = true) → g0.le g → Sim base w0 g H w →
      TRel g n T a.tmps → a.defers = ds → wpO P mu n d done l T H K → wpListIn (FR r) 0 P ops.toArray Q l a w
  | [], done, T, H, g, w, a, _, _, hg, S, hT, hd, h => hQ T H g w a h hg S hT hd
  | o :: rest, done, T, H, g, w, a, hops, hn, hg, S, hT, hd, h => by
    obtain ⟨hdst, b, hb, h1, h2⟩ := h
    have hw := guardA_wanted hT hops hn hb
    have hops' : ops.map (·.dst) = (done ++ [o.dst]) ++ rest.map (·.dst) := by rw [hops]; simp
    have hn' : ∀ d ∈ done ++ [o.dst], dstOk n d = true := by
      intro d hd'
      rcases List.mem_append.1 hd' with h | h
      · exact hn d h
      · simp at h; subst h; exact hdst
    have hput : ∀ z, (a.put o.dst z).defers = a.defers := by intro z; cases o.dst <;> rfl
    unfold wpListIn
    cases b with
    | true =>
      rw [if_pos hw]
      refine (h1 rfl).ok base w0 g w a r S (fun x _ => evA_rel hT x) _ _ (fun v z H' g' w' hk hg' S' hR => ?_)
      exact wpO_sound hQ rest _ _ H' g' w' _ hops' hn' (hg.trans hg') S' ((hT.mono hg').put hdst hR) (by rw [hput]; exact hd) hk
    | false =>
      rw [if_neg (by rw [hw]; simp)]
      refine ⟨fun _ _ => trivial, ?_⟩
      exact wpO_sound hQ rest _ _ H g w _ hops' hn' hg S (hT.put hdst (.val _)) (by rw [hput]; exact hd) (h2 rfl)

end Go.Proofs.Ytdmgljlabigljaa.Ab

namespace Go.Proofs.Ytdmgljlabigljaa.Ab
open Go Go.RowKit

variable {base : Nat} {w0 w w' : World} {g : Gh} {H : Hp} {P : Program}

def rdOk (g : Gh) : Option Nat → Option Nat → Prop
  | none, none => True
  | some b, some l => g.ph b = some l
  | _, _ => False

theorem rdOk.mono {g g' : Gh} (hg : g.le g') {rd r : Option Nat} (h : rdOk g rd r) : rdOk g' rd r := by
  cases rd <;> cases r <;> first | exact h | exact hg.ph _ _ h

/-- the marks that loops over functions have left among the deferred calls -/
structure Marks (g g' : Gh) (ds : List Deferred) : Prop where
  mark : ∀ d ∈ ds, ∃ r, d = ⟨.collected r, #[]⟩ ∧ g'.mr r ∧ ¬ g.mr r
  nodup : ds.Pairwise fun d e => d.target ≠ e.target ∨ d.args ≠ e.args

theorem Marks.nil (g g' : Gh) : Marks g g' [] := ⟨by simp, .nil⟩

theorem Marks.append {g g1 g2 : Gh} {ds es : List Deferred} (h : Marks g g1 ds) (k : Marks g1 g2 es) (h1 : g.le g1) (h2 : g1.le g2) : Marks g g2 (es ++ ds) := by
  refine ⟨fun d hd => ?_, ?_⟩
  · rcases List.mem_append.1 hd with hd | hd
    · obtain ⟨r, e, a, b⟩ := k.mark d hd
      exact ⟨r, e, a, fun c => b (h1.mr r c)⟩
    · obtain ⟨r, e, a, b⟩ := h.mark d hd
      exact ⟨r, e, h2.mr r a, b⟩
  · rw [List.pairwise_append]
    refine ⟨k.nodup, h.nodup, fun d hd e he => ?_⟩
    obtain ⟨r, rfl, a, b⟩ := k.mark d hd
    obtain ⟨s, rfl, c, d'⟩ := h.mark e he
    refine .inl fun x => ?_
    cases x
    exact b c

def Awp (P : Program) (n : Nat) (rd : Option Nat) (c : Code) (T : Env) (H : Hp) (Q : Exit → Env → Hp → Prop) : Prop :=
  ∀ (base : Nat) (w0 : World) (g : Gh) (w : World) (a : Act) (r : Option Nat), Sim base w0 g H w → TRel g n T a.tmps → rdOk g rd r →
    c.wpIn (FR r) 0 P (fun e a' w' => ∃ T' H' g' ds, Q e T' H' ∧ g.le g' ∧ Sim base w0 g' H' w' ∧ TRel g' n T' a'.tmps ∧ a'.defers = ds ++ a.defers ∧ Marks g g' ds) a w

variable {n : Nat} {rd : Option Nat} {T : Env} {Q Q' : Exit → Env → Hp → Prop}

theorem Awp.mono {c : Code} (h : Awp P n rd c T H Q) (hq : ∀ e T' H', Q e T' H' → Q' e T' H') : Awp P n rd c T H Q' :=
  fun base w0 g w a r S hT hr => wpIn_mono (h base w0 g w a r S hT hr) fun _ _ _ ⟨T', H', g', ds, h1, h2⟩ => ⟨T', H', g', ds, hq _ _ _ h1, h2⟩

theorem Awp.skip (h : Q .normal T H) : Awp P n rd .skip T H Q :=
  fun _ _ g _ _ _ S hT _ => wpIn_skip ⟨T, H, g, [], h, Gh.le.refl g, S, hT, rfl, Marks.nil _ _⟩
theorem Awp.label {l : Nat} (h : Q .normal T H) : Awp P n rd (.label l) T H Q :=
  fun _ _ g _ _ _ S hT _ => wpIn_label ⟨T, H, g, [], h, Gh.le.refl g, S, hT, rfl, Marks.nil _ _⟩
theorem Awp.exit {id : Nat} (h : Q (.exit id) T H) : Awp P n rd (.exit id) T H Q :=
  fun _ _ g _ _ _ S hT _ => wpIn_exit ⟨T, H, g, [], h, Gh.le.refl g, S, hT, rfl, Marks.nil _ _⟩
theorem Awp.goto {l : Nat} (h : Q (.goto l) T H) : Awp P n rd (.goto l) T H Q :=
  fun _ _ g _ _ _ S hT _ => wpIn_goto ⟨T, H, g, [], h, Gh.le.refl g, S, hT, rfl, Marks.nil _ _⟩
theorem Awp.ret (h : Q .ret T H) : Awp P n rd .ret T H Q :=
  fun _ _ g _ _ _ S hT _ => wpIn_ret ⟨T, H, g, [], h, Gh.le.refl g, S, hT, rfl, Marks.nil _ _⟩

def thenQ (k : Env → Hp → Prop) (Q : Exit → Env → Hp → Prop) : Exit → Env → Hp → Prop
  | .normal, T, H => k T H
  | e, T, H => Q e T H

def blockQ (id : Nat) (Q : Exit → Env → Hp → Prop) : Exit → Env → Hp → Prop
  | .exit i, T, H => if i = id then Q .normal T H else Q (.exit i) T H
  | e, T, H => Q e T H

theorem Awp.seq {x y : Code} (h : Awp P n rd x T H (thenQ (fun T' H' => Awp P n rd y T' H' Q) Q)) : Awp P n rd (.seq x y) T H Q := by
  intro base w0 g w a r S hT hr
  refine wpIn_seq (wpIn_mono (h base w0 g w a r S hT hr) fun e a' w' ⟨T', H', g', ds, h1, h2, h3, h4, h5, h6⟩ => ?_)
  cases e with
  | normal =>
    refine wpIn_mono (h1 base w0 g' w' a' r h3 h4 (hr.mono h2)) fun e a'' w'' ⟨T'', H'', g'', es, k1, k2, k3, k4, k5, k6⟩ => ?_
    exact ⟨T'', H'', g'', es ++ ds, k1, h2.trans k2, k3, k4, by rw [k5, h5, List.append_assoc], h6.append k6 h2 k2⟩
  | exit id => exact ⟨T', H', g', ds, h1, h2, h3, h4, h5, h6⟩
  | goto l => exact ⟨T', H', g', ds, h1, h2, h3, h4, h5, h6⟩
  | ret => exact ⟨T', H', g', ds, h1, h2, h3, h4, h5, h6⟩
  | panic c => exact ⟨T', H', g', ds, h1, h2, h3, h4, h5, h6⟩
  | outgrown => exact ⟨T', H', g', ds, h1, h2, h3, h4, h5, h6⟩

theorem Awp.cond {c : Operand} {x y : Code} {t : Bool} (hc : evA T c = .val (.bool t)) (hx : t = true → Awp P n rd x T H Q) (hy : t = false → Awp P n rd y T H Q) : Awp P n rd (.cond c x y) T H Q := by
  intro base w0 g w a r S hT hr
  have hcv : a.eval c = .bool t := by
    have := evA_rel hT c
    rw [hc] at this
    generalize a.eval c = v at this
    cases this
    rfl
  exact wpIn_cond_split hcv (fun h => hx h base w0 g w a r S hT hr) (fun h => hy h base w0 g w a r S hT hr)

theorem Awp.block {id : Nat} {c : Code} (h : Awp P n rd c T H (blockQ id Q)) : Awp P n rd (.block id c) T H Q := by
  intro base w0 g w a r S hT hr
  refine wpIn_block (wpIn_mono (h base w0 g w a r S hT hr) fun e a' w' ⟨T', H', g', ds, h1, h2⟩ => ?_)
  cases e with
  | exit i =>
    simp only [blockQ] at h1
    simp only [Exit.inBlock]
    by_cases hi : i = id
    · rw [if_pos hi] at h1 ⊢; exact ⟨T', H', g', ds, h1, h2⟩
    · rw [if_neg hi] at h1 ⊢; exact ⟨T', H', g', ds, h1, h2⟩
  | normal => exact ⟨T', H', g', ds, h1, h2⟩
  | goto l => exact ⟨T', H', g', ds, h1, h2⟩
  | ret => exact ⟨T', H', g', ds, h1, h2⟩
  | panic c => exact ⟨T', H', g', ds, h1, h2⟩
  | outgrown => exact ⟨T', H', g', ds, h1, h2⟩

theorem Awp.region {mu : Nat → Bool} {id : Nat} {ops : Array Oper} (h : ∀ K : Env → Hp → Prop, (∀ T' H', Q .normal T' H' → K T' H') → wpO P mu n none [] ops.toList T H K) : Awp P n rd (.region id ops false) T H Q := by
  intro base w0 g w a r S hT hr
  refine wpIn_region_list ?_
  have := wpO_sound (P := P) (mu := mu) (n := n) (d := none) (ops := ops.toList) (r := r) (base := base) (w0 := w0) (ds := a.defers) (g0 := g) (K := Q .normal)
    (Q := fun e a' w' => ∃ T' H' g' ds, Q e T' H' ∧ g.le g' ∧ Sim base w0 g' H' w' ∧ TRel g' n T' a'.tmps ∧ a'.defers = ds ++ a.defers ∧ Marks g g' ds)
    (fun T H g' w a' hk hg S' hT' hd => ⟨T, H, g', [], hk, hg, S', hT', hd, Marks.nil _ _⟩) ops.toList [] T H g w a (by simp) (by simp) (Gh.le.refl g) S hT rfl (h _ fun _ _ h => h)
  exact this

theorem wpIn_loop_ind {F : Fence} {m : Nat} {c : Code} {Q : Exit → Act → World → Prop} {a : Act} {w : World} {ι : Type} (I : ι → Act → World → Prop) (μ : ι → Nat) (i0 : ι) (h₀ : I i0 a w)
    (round : ∀ i a w, I i a w → c.wpIn F m P (Exit.then (fun a' w' => ∃ j, I j a' w' ∧ μ j < μ i) Q) a w) : (Code.loop c).wpIn F m P Q a w := by
  intro b k cs hro hb hr
  have key : ∀ j i a w, μ i = j → I i a w →
      ∃ e a' w', Q e a' w' ∧ ArrivesIn (Machine.fenced P F) P (lone (b.atR a (.code c :: .inLoop c :: k)) cs w) b k cs e a' w' := by
    intro j
    induction j using Nat.strongRecOn with
    | _ j ih =>
      intro i a w hn hI
      obtain ⟨e, a₁, w₁, hq, harr⟩ := round i a w hI b (.inLoop c :: k) cs hro hb hr
      cases e with
      | normal =>
        obtain ⟨i₁, hI₁, hlt⟩ := hq
        obtain ⟨e₂, a₂, w₂, hq₂, harr₂⟩ := ih (μ i₁) (hn ▸ hlt) i₁ a₁ w₁ rfl hI₁
        exact ⟨e₂, a₂, w₂, hq₂, .of_steps (StepsIn.trans harr (.one (fenced_calm hb hr rfl) stepR_inLoop)) harr₂⟩
      | exit id => exact ⟨_, a₁, w₁, hq, .pass (x := .inLoop c) rfl (fun _ _ => .inl (by simp)) harr⟩
      | goto l => exact ⟨_, a₁, w₁, hq, .pass (x := .inLoop c) rfl (fun _ _ => .inl (by simp)) harr⟩
      | ret => exact ⟨_, a₁, w₁, hq, .pass (x := .inLoop c) rfl (fun _ _ => .inl (by simp)) harr⟩
      | panic ch => exact ⟨_, a₁, w₁, hq, .pass (x := .inLoop c) rfl (fun _ _ => .inl (by simp)) harr⟩
      | outgrown => exact ⟨_, a₁, w₁, hq, .pass (x := .inLoop c) rfl (fun _ _ => .inl (by simp)) harr⟩
  obtain ⟨e, a', w', hq, harr⟩ := key _ i0 a w rfl h₀
  exact ⟨e, a', w', hq, .of_steps (.one (fenced_calm hb hr rfl) stepR_loop) harr⟩

/-- a loop, by a relation over states of the prover's own and a measure of these -/
theorem Awp.loop {c : Code} {ι : Type} (I : ι → Env → Hp → Prop) (μ : ι → Nat) (i0 : ι) (h0 : I i0 T H)
    (round : ∀ i T H, I i T H → Awp P n rd c T H (thenQ (fun T' H' => ∃ j, I j T' H' ∧ μ j < μ i) Q)) : Awp P n rd (.loop c) T H Q := by
  intro base w0 g w a r S hT hr
  refine wpIn_loop_ind (ι := ι) (fun i a' w' => ∃ T' H' g' ds, I i T' H' ∧ g.le g' ∧ Sim base w0 g' H' w' ∧ TRel g' n T' a'.tmps ∧ a'.defers = ds ++ a.defers ∧ Marks g g' ds) μ i0
    ⟨T, H, g, [], h0, Gh.le.refl g, S, hT, rfl, Marks.nil _ _⟩ ?_
  rintro i a1 w1 ⟨T1, H1, g1, ds, h1, h2, h3, h4, h5, h6⟩
  refine wpIn_mono (round i T1 H1 h1 base w0 g1 w1 a1 r h3 h4 (hr.mono h2)) fun e a2 w2 ⟨T2, H2, g2, es, k1, k2, k3, k4, k5, k6⟩ => ?_
  have hall : a2.defers = (es ++ ds) ++ a.defers := by rw [k5, h5, List.append_assoc]
  have hm := h6.append k6 h2 k2
  cases e with
  | normal =>
    obtain ⟨j, hj, hlt⟩ := k1
    exact ⟨j, ⟨T2, H2, g2, es ++ ds, hj, h2.trans k2, k3, k4, hall, hm⟩, hlt⟩
  | exit id => exact ⟨T2, H2, g2, es ++ ds, k1, h2.trans k2, k3, k4, hall, hm⟩
  | goto l => exact ⟨T2, H2, g2, es ++ ds, k1, h2.trans k2, k3, k4, hall, hm⟩
  | ret => exact ⟨T2, H2, g2, es ++ ds, k1, h2.trans k2, k3, k4, hall, hm⟩
  | panic c => exact ⟨T2, H2, g2, es ++ ds, k1, h2.trans k2, k3, k4, hall, hm⟩
  | outgrown => exact ⟨T2, H2, g2, es ++ ds, k1, h2.trans k2, k3, k4, hall, hm⟩

/-! ### what a function hands back -/

/-- what abstract references below n a value has -/
inductive Bel (n : Nat) : AV → Prop
  | val (v : Value) : Bel n (.val v)
  | rptr {cs : List AV} {off : Nat} (h : ∀ c ∈ cs, Bel n c) : Bel n (.rptr cs off)
  | mptr {b i off : Nat} (h : b < n) : Bel n (.mptr b i off)
  | rsl {es : List (List AV)} {ex : Bool} (h : ∀ e ∈ es, ∀ c ∈ e, Bel n c) : Bel n (.rsl es ex)
  | msl {b off len : Nat} (h : b < n) : Bel n (.msl b off len)
  | fn {f : Fn} {cap : List AV} (hy : ∀ l, f ≠ .yield l) (h : ∀ c ∈ cap, Bel n c) : Bel n (.fn f cap)
  | mth {f : FuncId} {pre : List AV} (h : ∀ c ∈ pre, Bel n c) : Bel n (.mth f pre)
  | yld {b : Nat} (h : b < n) : Bel n (.fn (.yield b) [])
  | mp {b : Nat} (h : b < n) : Bel n (.mp b)
  | agg {cs : List AV} (h : ∀ c ∈ cs, Bel n c) : Bel n (.agg cs)
  | tup {cs : List AV} (h : ∀ c ∈ cs, Bel n c) : Bel n (.tup cs)

theorem R.bel {g : Gh} {m : Nat} (hd : ∀ b x, g.ph b = some x → b < m) {a : AV} {v : Value} (h : R g a v) : Bel m a := by
  have arr : ∀ (cs : List AV) (vs : Array Value), cs.length = vs.size → (∀ (i : Nat) (c : AV) (v : Value), cs[i]? = some c → vs[i]? = some v → Bel m c) → ∀ c ∈ cs, Bel m c := by
    intro cs vs hl ih c hc
    obtain ⟨i, hi⟩ := List.getElem?_of_mem hc
    have hlt : i < vs.size := by rw [← hl]; exact (List.getElem?_eq_some_iff.1 hi).1
    exact ih i c vs[i] hi (Array.getElem?_eq_getElem hlt)
  induction h with
  | val v => exact .val v
  | rptr vs hf _ ih => exact .rptr fun c hc => by obtain ⟨i, hi⟩ := List.getElem?_of_mem hc; exact ih i c hi
  | mptr h => exact .mptr (hd _ _ h)
  | rnil => exact .rsl fun e he => by cases he
  | rsl vs hn hl hc hm hk hf _ ih =>
    exact .rsl fun e he c hc => by
      obtain ⟨i, hi⟩ := List.getElem?_of_mem he
      obtain ⟨j, hj⟩ := List.getElem?_of_mem hc
      exact ih i e j c hi hj
  | msl h => exact .msl (hd _ _ h)
  | fn hy hl _ ih => exact .fn hy (arr _ _ hl ih)
  | mth hl _ ih => exact .mth (arr _ _ hl ih)
  | yld h => exact .yld (hd _ _ h)
  | mp h => exact .mp (hd _ _ h)
  | agg hl _ ih => exact .agg (arr _ _ hl ih)
  | tup hl _ ih => exact .tup (arr _ _ hl ih)

/-- own blocks from number m on are forgotten -/
def Gh.cut (g : Gh) (m : Nat) : Gh := { g with ph := fun b => if b < m then g.ph b else none }

theorem Bel.cut {m : Nat} {a : AV} (hb : Bel m a) : ∀ {g : Gh} {v : Value}, R g a v → R (g.cut m) a v := by
  have ph : ∀ (g : Gh) (b x : Nat), b < m → g.ph b = some x → (g.cut m).ph b = some x := fun g b x hb h => by
    show (if b < m then g.ph b else none) = some x
    rw [if_pos hb]; exact h
  induction hb with
  | val v => intro g v h; cases h; exact .val _
  | rptr _ ih => intro g v h; cases h with | rptr vs hf hr => exact .rptr vs hf fun i c hc => ih c (List.mem_of_getElem? hc) (hr i c hc)
  | mptr hb => intro g v h; cases h with | mptr h => exact R.mptr (g := g.cut m) (ph _ _ _ hb h)
  | rsl _ ih => intro g v h; cases h with | rnil a => exact .rnil a | rsl vs hn hl hc hm hk hf hr => exact .rsl vs hn hl hc hm hk hf fun i e j c he hc => ih e (List.mem_of_getElem? he) c (List.mem_of_getElem? hc) (hr i e j c he hc)
  | msl hb => intro g v h; cases h with | msl h hl hc hm => exact R.msl (g := g.cut m) (ph _ _ _ hb h) hl hc hm
  | fn hy _ ih => intro g v h; cases h with
    | fn hy hl hr => exact .fn hy hl fun i c v hc hv => ih c (List.mem_of_getElem? hc) (hr i c v hc hv)
    | yld h => exact absurd rfl (hy _)
  | mth _ ih => intro g v h; cases h with
    | mth hl hr => exact .mth hl fun i c v hc hv => ih c (List.mem_of_getElem? hc) (hr i c v hc hv)
  | yld hb => intro g v h; cases h with
    | fn hy => exact absurd rfl (hy _)
    | yld h => exact .yld (ph _ _ _ hb h)
  | mp hb => intro g v h; cases h with | mp h => exact .mp (ph _ _ _ hb h)
  | agg _ ih => intro g v h; cases h with | agg hl hr => exact .agg hl fun i c v hc hv => ih c (List.mem_of_getElem? hc) (hr i c v hc hv)
  | tup _ ih => intro g v h; cases h with | tup hl hr => exact .tup hl fun i c v hc hv => ih c (List.mem_of_getElem? hc) (hr i c v hc hv)

inductive BelO (m : Nat) : AObj → Prop
  | cells {es : List (List AV)} {t : TypeId} (h : ∀ e ∈ es, ∀ c ∈ e, Bel m c) : BelO m (.cells es t)
  | amap {es : List (AV × AV)} (h : ∀ e ∈ es, Bel m e.1 ∧ Bel m e.2) : BelO m (.amap es)
  | amapC {es : List (AV × AV)} {ss : List Nat} {c : Nat} (h : ∀ e ∈ es, Bel m e.1 ∧ Bel m e.2) : BelO m (.amapC es ss c)
  | miter {b c : Nat} {ss seen : List Nat} (h : b < m) : BelO m (.miter b ss c seen)
  | siter (s : ByteArray) (pos : Nat) : BelO m (.siter s pos)
  | loop {st : LoopState} {pend : Option Code} {f : FuncId} {T : Nat → AV} {n : Nat} {params : Array Tmp} {assign body : Code} {defers : Nat} (h : ∀ t, Bel m (T t)) :
      BelO m (.loop st pend f T n params assign body defers)
  | dead : BelO m .dead

theorem ORel.bel {g : Gh} {m k cp : Nat} (hd : ∀ b x, g.ph b = some x → b < m) {ob : AObj} {o : Obj} (h : ORel g k cp ob o) : BelO m ob := by
  cases h with
  | cells hs hl hk hr =>
    refine .cells fun e he c hc => ?_
    obtain ⟨i, hi⟩ := List.getElem?_of_mem he
    obtain ⟨j, hj⟩ := List.getElem?_of_mem hc
    obtain ⟨v, _, h⟩ := hr i e j c hi hj
    exact h.bel hd
  | loop h => exact .loop fun t => (h.slot t).bel hd
  | amap hl hr hst =>
    refine .amap fun e he => ?_
    obtain ⟨i, hi⟩ := List.getElem?_of_mem he
    rename_i ms clock
    have hlt : i < ms.size := by rw [← hl]; exact (List.getElem?_eq_some_iff.1 hi).1
    have := hr i e ms[i] hi (Array.getElem?_eq_getElem hlt)
    exact ⟨this.1.bel hd, this.2.bel hd⟩
  | amapC hl hr hst hss =>
    refine .amapC fun e he => ?_
    obtain ⟨i, hi⟩ := List.getElem?_of_mem he
    rename_i ms clock
    have hlt : i < ms.size := by rw [← hl]; exact (List.getElem?_eq_some_iff.1 hi).1
    have := hr i e ms[i] hi (Array.getElem?_eq_getElem hlt)
    exact ⟨this.1.bel hd, this.2.bel hd⟩
  | miter hb => exact .miter (hd _ _ hb)
  | siter s p => exact .siter s p
  | dead => exact .dead

theorem BelO.cut {m k cp : Nat} {ob : AObj} {o : Obj} (hb : BelO m ob) {g : Gh} (h : ORel g k cp ob o) : ORel (g.cut m) k cp ob o := by
  cases h with
  | cells hs hl hk hr =>
    cases hb with
    | cells hb => exact .cells hs hl hk fun i e j c he hc => let ⟨v, h1, h2⟩ := hr i e j c he hc; ⟨v, h1, (hb e (List.mem_of_getElem? he) c (List.mem_of_getElem? hc)).cut h2⟩
  | loop h =>
    cases hb with
    | loop hb => exact .loop ⟨h.size, fun t => (hb t).cut (h.slot t)⟩
  | amap hl hr hs =>
    cases hb with
    | amap hb => exact .amap hl (fun i e m he hm => ⟨(hb e (List.mem_of_getElem? he)).1.cut (hr i e m he hm).1, (hb e (List.mem_of_getElem? he)).2.cut (hr i e m he hm).2⟩) hs
  | amapC hl hr hs hss =>
    cases hb with
    | amapC hb => exact .amapC hl (fun i e m he hm => ⟨(hb e (List.mem_of_getElem? he)).1.cut (hr i e m he hm).1, (hb e (List.mem_of_getElem? he)).2.cut (hr i e m he hm).2⟩) hs hss
  | miter h =>
    cases hb with
    | miter hb => exact .miter (by show (if _ < m then g.ph _ else none) = _; rw [if_pos hb]; exact h)
  | siter s p => exact .siter s p
  | dead => exact .dead _

/-- the last blocks of a heap may be forgotten, if nothing of the others leads to them -/
theorem Sim.cut {H1 X : Hp} (S : Sim base w0 g (H1 ++ X) w) (hb : ∀ (b : Nat) (ob : AObj), H1[b]? = some ob → ob ≠ .dead → BelO H1.length ob) : Sim base w0 (g.cut H1.length) H1 w := by
  have ph : ∀ b x, (g.cut H1.length).ph b = some x → b < H1.length ∧ g.ph b = some x := by
    intro b x h
    change (if b < H1.length then g.ph b else none) = some x at h
    split at h
    · exact ⟨by assumption, h⟩
    · cases h
  have old : ∀ (b : Nat) (ob : AObj), H1[b]? = some ob → (H1 ++ X)[b]? = some ob := by
    intro b ob h
    rw [List.getElem?_append_left (List.getElem?_eq_some_iff.1 h).1]; exact h
  exact
  { below := S.below
    low := S.low
    fz := S.fz
    dom := fun b x h => (ph b x h).1
    pos := fun b x h => S.pos b x (ph b x h).2
    sep := fun b x ob h hn hx => S.sep b x ob (old b ob h) hn (ph b x hx).2
    inj := fun b c x ob oc h hn h' hn' hx hx' => S.inj b c x ob oc (old b ob h) hn (old c oc h') hn' (ph b x hx).2 (ph c x hx').2
    obj := fun b ob h hn => by
      obtain ⟨x, o, h1, h2, h3⟩ := S.obj b ob (old b ob h) hn
      refine ⟨x, o, ?_, h2, (hb b ob h hn).cut h3⟩
      show (if b < H1.length then g.ph b else none) = some x
      rw [if_pos (List.getElem?_eq_some_iff.1 h).1]; exact h1
    marks := S.marks }

/-- a value and a heap may be told otherwise -/
def Vs (H0 : Hp) (a : AV) (H : Hp) (a' : AV) (H' : Hp) : Prop :=
  ∀ (base : Nat) (w0 : World) (g0 g : Gh) (w : World) (x : Value), (∀ b x, g0.ph b = some x → b < H0.length) → (∀ (b : Nat) (ob : AObj), H0[b]? = some ob → ob ≠ .dead → BelO H0.length ob) → g0.le g → Sim base w0 g H w → R g a x →
    ∃ g', g0.le g' ∧ Sim base w0 g' H' w ∧ R g' a' x

theorem Vs.refl (H0 : Hp) (a : AV) (H : Hp) : Vs H0 a H a H := fun _ _ _ g _ _ _ _ hg S hR => ⟨g, hg, S, hR⟩

theorem Vs.trans {H0 H1 H2 H3 : Hp} {a b c : AV} (h : Vs H0 a H1 b H2) (k : Vs H0 b H2 c H3) : Vs H0 a H1 c H3 := by
  intro base w0 g0 g w x hd hb hg S hR
  obtain ⟨g1, h1, h2, h3⟩ := h base w0 g0 g w x hd hb hg S hR
  exact k base w0 g0 g1 w x hd hb h1 h2 h3

/-- what the call has made is forgotten, if the result does not lead to it and what was there is as it was -/
theorem Vs.drop {H0 X : Hp} {a : AV} (ha : Bel H0.length a) : Vs H0 a (H0 ++ X) a H0 := by
  intro base w0 g0 g w x hd hb hg S hR
  refine ⟨g.cut H0.length, ⟨hg.fz, fun b y h => ?_, hg.ks, hg.cp, hg.mr⟩, S.cut hb, ha.cut hR⟩
  show (if b < H0.length then g.ph b else none) = some y
  rw [if_pos (hd b y h)]; exact hg.ph b y h

theorem Vs.dropTo {H0 H1 X : Hp} {a : AV} (hl : H0.length ≤ H1.length) (hb1 : (∀ (b : Nat) (ob : AObj), H0[b]? = some ob → ob ≠ .dead → BelO H0.length ob) → ∀ (b : Nat) (ob : AObj), H1[b]? = some ob → ob ≠ .dead → BelO H1.length ob)
    (ha : Bel H1.length a) : Vs H0 a (H1 ++ X) a H1 := by
  intro base w0 g0 g w x hd hb hg S hR
  refine ⟨g.cut H1.length, ⟨hg.fz, fun b y h => ?_, hg.ks, hg.cp, hg.mr⟩, S.cut (hb1 hb), ha.cut hR⟩
  show (if b < H1.length then g.ph b else none) = some y
  rw [if_pos (Nat.lt_of_lt_of_le (hd b y h) hl)]; exact hg.ph b y h

end Go.Proofs.Ytdmgljlabigljaa.Ab

namespace Go.Proofs.Ytdmgljlabigljaa.Ab
open Go Go.RowKit

variable {base : Nat} {w0 w w' : World} {g : Gh} {H : Hp} {P : Program}

/-! ### which operations do not look at the heap -/

def isP (mu : Nat → Bool) (o : Oper) : Bool :=
  match o.op with
  | .move _ | .assign _ | .pick .. | .build .. | .nilCheck _ | .binOp .. | .unOp .. | .convert .. | .makeFunc .. | .slice .. | .fieldAddr .. | .field .. | .index .. | .extract .. => true
  | .alloc _ | .box .. | .buildSlice .. => !isMu mu o.dst
  | .call { callee := .builtin .max, .. } => true
  | .call { callee := .builtin .min, .. } => true
  | _ => false

theorem evA_congr {T T' : Env} {x : Operand} (h : ∀ t, x = .tmp t → T t = T' t) : evA T x = evA T' x := by
  cases x with
  | tmp t => exact h t rfl
  | _ => rfl

theorem map_congr_op {T T' : Env} {xs : Array Operand} (h : ∀ x ∈ xs, evA T x = evA T' x) : xs.toList.map (evA T) = xs.toList.map (evA T') :=
  List.map_congr_left fun x hx => h x (by simpa using hx)

theorem parts_congr {T T' : Env} {ps : Array (Nat × Operand)} (h : ∀ x ∈ ps.toList.map (·.2), evA T x = evA T' x) : partsA (evA T) ps = partsA (evA T') ps := by
  unfold partsA
  refine List.map_congr_left fun p hp => ?_
  rw [h p.2 (List.mem_map.2 ⟨p, hp, rfl⟩)]

theorem stepA_congr {mu : Nat → Bool} {o : Oper} {T T' : Env} (h : ∀ x ∈ o.op.operands, evA T x = evA T' x) : stepA P mu o T H = stepA P mu o T' H := by
  obtain ⟨dst, op, type, pos, after, guard⟩ := o
  cases op with
  | build t ps => simp only [stepA]; rw [parts_congr fun x hx => h x (by simpa [Op.operands] using hx)]
  | buildSlice t n ps => simp only [stepA]; rw [parts_congr fun x hx => h x (by simpa [Op.operands] using hx)]
  | makeFunc f first captured =>
    simp only [stepA]
    rw [map_congr_op (xs := captured) fun x hx => h x (by simp [Op.operands, hx]), map_congr_op (xs := first) fun x hx => h x (by simp [Op.operands, hx])]
  | slice t x lo hi mx =>
    have e0 := h x (by simp [Op.operands])
    have e1 : lo.map (evA T) = lo.map (evA T') := by cases lo with
      | none => rfl
      | some y => exact congrArg some (h y (by simp [Op.operands]))
    have e2 : hi.map (evA T) = hi.map (evA T') := by cases hi with
      | none => rfl
      | some y => exact congrArg some (h y (by simp [Op.operands]))
    have e3 : mx.map (evA T) = mx.map (evA T') := by cases mx with
      | none => rfl
      | some y => exact congrArg some (h y (by simp [Op.operands]))
    simp only [stepA, e0, e1, e2, e3]
  | call c =>
    obtain ⟨callee, args, aT⟩ := c
    cases callee with
    | builtin b => simp only [stepA]; rw [map_congr_op (xs := args) fun x hx => h x (by simp [Op.operands, Call.operands, hx])]
    | _ => rfl
  | pick c a b => have e1 := h c (by simp [Op.operands]); have e2 := h a (by simp [Op.operands]); have e3 := h b (by simp [Op.operands]); simp only [stepA, e1, e2, e3]
  | store t a x => have e1 := h a (by simp [Op.operands]); have e2 := h x (by simp [Op.operands]); simp only [stepA, e1, e2]
  | binOp op t x y t' => have e1 := h x (by simp [Op.operands]); have e2 := h y (by simp [Op.operands]); simp only [stepA, e1, e2]
  | makeSlice t l c => have e1 := h l (by simp [Op.operands]); have e2 := h c (by simp [Op.operands]); simp only [stepA, e1, e2]
  | indexAddr t x i => have e1 := h x (by simp [Op.operands]); have e2 := h i (by simp [Op.operands]); simp only [stepA, e1, e2]
  | lookup t x i ok => have e1 := h x (by simp [Op.operands]); have e2 := h i (by simp [Op.operands]); simp only [stepA, e1, e2]
  | mapUpdate t m k v => have e1 := h m (by simp [Op.operands]); have e2 := h k (by simp [Op.operands]); have e3 := h v (by simp [Op.operands]); simp only [stepA, e1, e2, e3]
  | makeMap t r => cases r <;> rfl
  | index t x i => have e1 := h x (by simp [Op.operands]); have e2 := h i (by simp [Op.operands]); simp only [stepA, e1, e2]
  | move x => have e1 := h x (by simp [Op.operands]); simp only [stepA, e1]
  | assign x => have e1 := h x (by simp [Op.operands]); simp only [stepA, e1]
  | box e x => have e1 := h x (by simp [Op.operands]); simp only [stepA, e1]
  | load t x => have e1 := h x (by simp [Op.operands]); simp only [stepA, e1]
  | nilCheck x => have e1 := h x (by simp [Op.operands]); simp only [stepA, e1]
  | unOp op t x => have e1 := h x (by simp [Op.operands]); simp only [stepA, e1]
  | convert s d x => have e1 := h x (by simp [Op.operands]); simp only [stepA, e1]
  | fieldAddr s x f => have e1 := h x (by simp [Op.operands]); simp only [stepA, e1]
  | field t x f => have e1 := h x (by simp [Op.operands]); simp only [stepA, e1]
  | extract t ix => have e1 := h t (by simp [Op.operands]); simp only [stepA, e1]
  | _ => rfl

theorem stepA_P {mu : Nat → Bool} {o : Oper} {T : Env} {v : AV} {H' : Hp} (hp : isP mu o = true) (h : stepA P mu o T H = some (v, H')) (H2 : Hp) : H' = H ∧ stepA P mu o T H2 = some (v, H2) := by
  have mp : ∀ (x : Option AV), x.map (·, H) = some (v, H') → H' = H ∧ x.map (·, H2) = some (v, H2) := by
    intro x hx
    cases x with
    | none => cases hx
    | some y => cases hx; exact ⟨rfl, rfl⟩
  obtain ⟨dst, op, type, pos, after, guard⟩ := o
  cases op with
  | move x => simp only [stepA, Option.some.injEq, Prod.mk.injEq] at h ⊢; exact ⟨h.2.symm, h.1, trivial⟩
  | assign x => simp only [stepA, Option.some.injEq, Prod.mk.injEq] at h ⊢; exact ⟨h.2.symm, h.1, trivial⟩
  | pick c a b =>
    simp only [stepA] at h ⊢
    split at h
    · simp only [Option.some.injEq, Prod.mk.injEq] at h ⊢; exact ⟨h.2.symm, h.1, trivial⟩
    · cases h
  | build t ps => simp only [stepA] at h ⊢; exact mp _ h
  | nilCheck x =>
    simp only [stepA] at h ⊢
    split at h <;> first
      | (cases h; done)
      | (simp only [Option.some.injEq, Prod.mk.injEq] at h ⊢; exact ⟨h.2.symm, h.1, trivial⟩)
  | binOp op t x y t' => simp only [stepA] at h ⊢; exact mp _ h
  | unOp op t x => simp only [stepA] at h ⊢; exact mp _ h
  | convert s d x => simp only [stepA] at h ⊢; exact mp _ h
  | makeFunc f first captured =>
    simp only [stepA] at h ⊢
    split at h
    · split at h
      · rename_i h0; rw [if_pos h0]; simp only [Option.some.injEq, Prod.mk.injEq] at h ⊢; exact ⟨h.2.symm, h.1, trivial⟩
      · split at h
        · rename_i h0 h1; rw [if_neg h0, if_pos h1]; simp only [Option.some.injEq, Prod.mk.injEq] at h ⊢; exact ⟨h.2.symm, h.1, trivial⟩
        · cases h
    · cases h
  | slice t x lo hi mx => simp only [stepA] at h ⊢; exact mp _ h
  | fieldAddr s x f =>
    simp only [stepA] at h ⊢
    split at h
    · split at h <;> first
        | (cases h; done)
        | (simp only [Option.some.injEq, Prod.mk.injEq] at h ⊢; exact ⟨h.2.symm, h.1, trivial⟩)
    · cases h
  | field t x f =>
    simp only [stepA] at h ⊢
    split at h <;> first
      | (cases h; done)
      | exact mp _ h
  | index t x i =>
    simp only [stepA] at h ⊢
    split at h
    · rename_i u v' _ _
      cases hq : pureRun P (Instr.index t u v') with
      | none => rw [hq] at h; cases h
      | some z => rw [hq] at h; cases h; exact ⟨rfl, rfl⟩
    · split at h
      · split at h
        · rename_i hc; rw [if_pos hc]; exact mp _ h
        · cases h
      · cases h
    · cases h
  | extract t ix =>
    simp only [stepA] at h ⊢
    split at h
    · exact mp _ h
    · rename_i vs _
      cases hq : vs[ix]? with
      | none => rw [hq] at h; cases h
      | some z => rw [hq] at h; cases h; exact ⟨rfl, rfl⟩
    · cases h
  | alloc e =>
    simp only [isP, Bool.not_eq_true'] at hp
    simp only [stepA, hp, boxA] at h ⊢
    split at h
    · simp only [Bool.false_eq_true, if_false, Option.some.injEq, Prod.mk.injEq] at h ⊢; exact ⟨h.2.symm, h.1, trivial⟩
    · cases h
  | box e x =>
    simp only [isP, Bool.not_eq_true'] at hp
    simp only [stepA, hp, boxA] at h ⊢
    simp only [Bool.false_eq_true, if_false, Option.some.injEq, Prod.mk.injEq] at h ⊢; exact ⟨h.2.symm, h.1, trivial⟩
  | buildSlice t n ps =>
    simp only [isP, Bool.not_eq_true'] at hp
    simp only [stepA, hp] at h ⊢
    split at h
    · simp only [Bool.false_eq_true, if_false, Option.some.injEq, Prod.mk.injEq] at h ⊢; exact ⟨h.2.symm, h.1, trivial⟩
    · cases h
  | call c =>
    obtain ⟨callee, args, aT⟩ := c
    cases callee with
    | builtin b =>
      cases b <;> first
        | (simp [isP] at hp; done)
        | (simp only [stepA, builtinA] at h ⊢; exact mp _ h)
    | _ => simp [isP] at hp
  | _ => simp [isP] at hp

end Go.Proofs.Ytdmgljlabigljaa.Ab

namespace Go.Proofs.Ytdmgljlabigljaa.Ab
open Go Go.RowKit

variable {base : Nat} {w0 w w' : World} {g : Gh} {H : Hp} {P : Program}

theorem PerfTo.congr {mu : Nat → Bool} {o : Oper} {T T' : Env} {v : AV} {H' : Hp} (he : ∀ x ∈ o.op.operands, evA T x = evA T' x) (h : PerfTo P mu o T H v H') : PerfTo P mu o T' H v H' := by
  unfold PerfTo at h ⊢
  split
  · rename_i f args e
    rw [e] at h
    obtain ⟨aT, ho⟩ := callOf_eq e
    have e1 := he f (by simp [ho, Op.operands, Call.operands])
    have e2 := map_congr_op (xs := args) (T := T) (T' := T') fun x hx => he x (by simp [ho, Op.operands, Call.operands, hx])
    simp only at h
    rw [← e1, ← e2]
    exact h
  · rename_i e
    rw [e] at h
    simp only at h
    rw [← stepA_congr he]
    exact h

structure StepR (P : Program) (mu : Nat → Bool) (n : Nat) (W : Draw) (i : Nat) (dsts : List (Option Tmp)) (o : Oper) (T : Env) (H : Hp) (v : AV) (T' : Env) (H' : Hp) : Prop where
  dst : dstOk n o.dst = true
  put : T' = putA T o.dst v
  how : ∃ b, guardA dsts o.guard T = some b ∧ (b = true → PerfTo P mu o T H v H' ∧ okD P mu (some W) i o T H v H') ∧ (b = false → v = .val undef ∧ H' = H)

theorem guardA_more {done more : List (Option Tmp)} {gd : Option (Nat × Bool)} {T : Env} {b : Bool} (h : guardA done gd T = some b) : guardA (done ++ more) gd T = some b := by
  cases gd with
  | none => exact h
  | some p =>
    obtain ⟨j, want⟩ := p
    simp only [guardA] at h ⊢
    split at h
    · rename_i s hs
      rw [List.getElem?_append_left (List.getElem?_eq_some_iff.1 hs).1, hs]
      exact h
    · cases h

theorem trace_of {mu : Nat → Bool} {n : Nat} {W : Draw} {K : Env → Hp → Prop} : ∀ (l : List Oper) (done : List (Option Tmp)) (T : Env) (H : Hp), wpO P mu n (some W) done l T H K →
    ∃ (Ts : Nat → Env) (Hs : Nat → Hp) (vs : Nat → AV), Ts 0 = T ∧ Hs 0 = H ∧ K (Ts l.length) (Hs l.length) ∧
      ∀ (i : Nat) (o : Oper), l[i]? = some o → StepR P mu n W (done.length + i) (done ++ l.map (·.dst)) o (Ts i) (Hs i) (vs i) (Ts (i + 1)) (Hs (i + 1))
  | [], done, T, H, h => ⟨fun _ => T, fun _ => H, fun _ => .val undef, rfl, rfl, h, by simp⟩
  | o :: rest, done, T, H, h => by
    obtain ⟨hd, b, hb, h1, h2⟩ := h
    have key : ∃ v H', ((b = true → PerfTo P mu o T H v H' ∧ okD P mu (some W) done.length o T H v H') ∧ (b = false → v = .val undef ∧ H' = H)) ∧ wpO P mu n (some W) (done ++ [o.dst]) rest (putA T o.dst v) H' K := by
      cases b with
      | true =>
        obtain ⟨v, H', k1, k2, k3⟩ := h1 rfl
        exact ⟨v, H', ⟨fun _ => ⟨k1, k2⟩, fun h => by cases h⟩, k3⟩
      | false => exact ⟨.val undef, H, ⟨fun h => (by cases h), fun _ => ⟨rfl, rfl⟩⟩, h2 rfl⟩
    obtain ⟨v, H', hs, hk⟩ := key
    obtain ⟨Ts, Hs, vs, t0, h0, hK, hst⟩ := trace_of rest _ _ _ hk
    refine ⟨fun i => match i with | 0 => T | i + 1 => Ts i, fun i => match i with | 0 => H | i + 1 => Hs i, fun i => match i with | 0 => v | i + 1 => vs i, rfl, rfl, hK, fun i x hx => ?_⟩
    cases i with
    | zero =>
      simp only [List.getElem?_cons_zero, Option.some.injEq] at hx
      subst hx
      refine ⟨hd, t0, b, guardA_more hb, ?_⟩
      show (b = true → PerfTo P mu o T H v (Hs 0) ∧ okD P mu (some W) (done.length + 0) o T H v (Hs 0)) ∧ (b = false → v = .val undef ∧ Hs 0 = H)
      rw [h0]
      exact hs
    | succ i =>
      have := hst i x (by simpa using hx)
      simp only [List.length_append, List.length_cons, List.length_nil] at this
      rw [show done.length + (0 + 1) + i = done.length + (i + 1) by omega, List.append_assoc] at this
      simpa using this

/-! ### the check of an order -/

def confl (mu : Nat → Bool) (W : Draw) (i j : Nat) (x y : Oper) : Bool := (W.ev i && (W.ev j || !(isP mu y || W.rf j))) || (W.ev j && !(isP mu x || W.rf i))

def drawOk (mu : Nat → Bool) (W : Draw) (ops : Array Oper) (bs : List Nat) : Bool :=
  (List.range ops.size).all fun i => match ops[i]? with
    | none => false
    | some x =>
      x.after.all (fun e => !Region.binds .any e || decide (e.on < i)) &&
      (match x.op with | .select .. => false | _ => true) &&
      (List.range ops.size).all fun j => match ops[j]? with
        | none => false
        | some y =>
          (!(bs.getD i 0).testBit j || x.after.any (fun e => Region.binds .any e && (e.on == j || (bs.getD e.on 0).testBit j))) &&
          (!decide (i < j) || (bs.getD j 0).testBit i || (x.apart ops y && !confl mu W i j x y))

structure Drawn (mu : Nat → Bool) (W : Draw) (ops : Array Oper) (bs : List Nat) : Prop where
  back : ∀ (i : Nat) (x : Oper), ops[i]? = some x → ∀ e ∈ x.after, Region.binds .any e = true → e.on < i
  cert : ∀ (i j : Nat) (x : Oper), ops[i]? = some x → j < ops.size → (bs.getD i 0).testBit j = true → ∃ e ∈ x.after, Region.binds .any e = true ∧ (e.on = j ∨ (bs.getD e.on 0).testBit j = true)
  free : ∀ (i j : Nat) (x y : Oper), ops[i]? = some x → ops[j]? = some y → i < j → (bs.getD j 0).testBit i = true ∨ (x.apart ops y = true ∧ confl mu W i j x y = false)

theorem drawOk_spec {mu : Nat → Bool} {W : Draw} {ops : Array Oper} {bs : List Nat} (h : drawOk mu W ops bs = true) : Drawn mu W ops bs := by
  unfold drawOk at h
  rw [List.all_eq_true] at h
  have hi : ∀ (i : Nat) (x : Oper), ops[i]? = some x → i < ops.size := fun i x hx => (Array.getElem?_eq_some_iff.1 hx).1
  refine ⟨fun i x hx e he hb => ?_, fun i j x hx hj ht => ?_, fun i j x y hx hy hij => ?_⟩
  · have := h i (List.mem_range.2 (hi i x hx))
    rw [hx] at this
    simp only [Bool.and_eq_true] at this
    have := Array.all_eq_true_iff_forall_mem.1 this.1.1 e he
    simpa [hb] using this
  · have := h i (List.mem_range.2 (hi i x hx))
    rw [hx] at this
    simp only [Bool.and_eq_true] at this
    have := List.all_eq_true.1 this.2 j (List.mem_range.2 hj)
    have hy : ops[j]? = some ops[j] := Array.getElem?_eq_getElem hj
    rw [hy] at this
    simp only [Bool.and_eq_true, ht, Bool.not_true, Bool.false_or, Array.any_eq_true'] at this
    obtain ⟨e, he, h1⟩ := this.1
    simp only [Bool.or_eq_true, beq_iff_eq] at h1
    exact ⟨e, he, h1.1, h1.2⟩
  · have := h i (List.mem_range.2 (hi i x hx))
    rw [hx] at this
    simp only [Bool.and_eq_true] at this
    have := List.all_eq_true.1 this.2 j (List.mem_range.2 (hi j y hy))
    rw [hy] at this
    simp only [Bool.and_eq_true, Bool.or_eq_true, Bool.not_eq_true', decide_eq_false_iff_not] at this
    rcases this.2 with (h1 | h1) | h1
    · exact absurd hij h1
    · exact .inl h1
    · exact .inr h1

/-! ### what stands when some of the operations have been done -/

section done
variable (ops : Array Oper) (T0 : Env) (H0 : Hp) (Hs : Nat → Hp) (vs : Nat → AV) (ev : Nat → Bool) (L : Nat → Bool)

def Tc : Nat → Env
  | 0 => T0
  | i + 1 => if L i then putA (Tc i) ((ops[i]?).bind (·.dst)) (vs i) else Tc i

def Hc : Nat → Hp
  | 0 => H0
  | i + 1 => if L i && ev i then Hs (i + 1) else Hc i
end done

theorem putA_ne {T : Env} {dst : Option Tmp} {v : AV} {t : Nat} (h : dst ≠ some t) : putA T dst v t = T t := by
  cases dst with
  | none => rfl
  | some d =>
    show (if t = d then v else T t) = T t
    rw [if_neg (fun e => h (by rw [e]))]

theorem putA_eq {T : Env} {v : AV} {t : Nat} : putA T (some t) v t = v := by
  show (if t = t then v else T t) = v
  rw [if_pos rfl]

section main
variable {ops : Array Oper} {T0 : Env} {H0 : Hp} {Ts : Nat → Env} {Hs : Nat → Hp} {vs : Nat → AV} {W : Draw} {mu : Nat → Bool} {n : Nat} {bs : List Nat}

/-- up to m all that writes slot t has been done: the slot is what it is in the order of the text -/
theorem Tc_upto {L : Nat → Bool} (t0 : Ts 0 = T0) (hst : ∀ (i : Nat) (o : Oper), ops[i]? = some o → StepR P mu n W i (ops.toList.map (·.dst)) o (Ts i) (Hs i) (vs i) (Ts (i + 1)) (Hs (i + 1))) (t : Nat) :
    ∀ m, m ≤ ops.size → (∀ j o, j < m → ops[j]? = some o → o.dst = some t → L j = true) → Tc ops T0 vs L m t = Ts m t
  | 0, _, _ => by rw [t0]; rfl
  | m + 1, hm, h => by
    have ih := Tc_upto t0 hst t m (by omega) (fun j o hj => h j o (by omega))
    have ho : ops[m]? = some ops[m] := Array.getElem?_eq_getElem (by omega)
    have hs := (hst m _ ho).put
    have hd : (ops[m]?).bind (·.dst) = ops[m].dst := by rw [ho]; rfl
    show (if L m then putA (Tc ops T0 vs L m) ((ops[m]?).bind (·.dst)) (vs m) else Tc ops T0 vs L m) t = _
    rw [hs, hd]
    by_cases hw : ops[m].dst = some t
    · rw [if_pos (h m _ (by omega) ho hw), hw, putA_eq, putA_eq]
    · rw [putA_ne hw, ← ih]
      split
      · exact putA_ne hw
      · rfl

/-- from m on nothing that writes slot t has been done -/
theorem Tc_from {L : Nat → Bool} (t m : Nat) : ∀ k, (∀ j o, m ≤ j → j < m + k → ops[j]? = some o → o.dst = some t → L j = false) → Tc ops T0 vs L (m + k) t = Tc ops T0 vs L m t
  | 0, _ => rfl
  | k + 1, h => by
    have ih := Tc_from t m k (fun j o h1 h2 => h j o h1 (by omega))
    rw [← ih]
    show (if L (m + k) then putA (Tc ops T0 vs L (m + k)) ((ops[m + k]?).bind (·.dst)) (vs (m + k)) else Tc ops T0 vs L (m + k)) t = _
    split
    · rename_i hl
      refine putA_ne fun hd => ?_
      obtain ⟨o, ho, hd⟩ := Option.bind_eq_some_iff.1 hd
      rw [h (m + k) o (by omega) (by omega) ho hd] at hl
      cases hl
    · rfl

theorem Hc_upto {L : Nat → Bool} (h0 : Hs 0 = H0) (hst : ∀ (i : Nat) (o : Oper), ops[i]? = some o → StepR P mu n W i (ops.toList.map (·.dst)) o (Ts i) (Hs i) (vs i) (Ts (i + 1)) (Hs (i + 1))) :
    ∀ m, m ≤ ops.size → (∀ j, j < m → W.ev j = true → L j = true) → Hc H0 Hs W.ev L m = Hs m
  | 0, _, _ => by rw [h0]; rfl
  | m + 1, hm, h => by
    have ih := Hc_upto h0 hst m (by omega) (fun j hj => h j (by omega))
    have ho : ops[m]? = some ops[m] := Array.getElem?_eq_getElem (by omega)
    show (if L m && W.ev m then Hs (m + 1) else Hc H0 Hs W.ev L m) = _
    cases he : W.ev m with
    | true => rw [h m (by omega) he]; rfl
    | false =>
      rw [Bool.and_false, if_neg (by simp), ih]
      obtain ⟨b, _, h1, h2⟩ := (hst m _ ho).how
      cases b with
      | true => exact ((h1 rfl).2.1 he).symm
      | false => exact (h2 rfl).2.symm

theorem Hc_from {L : Nat → Bool} (m : Nat) : ∀ k, (∀ j, m ≤ j → j < m + k → W.ev j = true → L j = false) → Hc H0 Hs W.ev L (m + k) = Hc H0 Hs W.ev L m
  | 0, _ => rfl
  | k + 1, h => by
    have ih := Hc_from m k (fun j h1 h2 => h j h1 (by omega))
    rw [← ih]
    have hc : ¬ (L (m + k) && W.ev (m + k)) = true := by
      intro hc
      simp only [Bool.and_eq_true] at hc
      rw [h (m + k) (by omega) (by omega) hc.2] at hc
      cases hc.1
    show (if L (m + k) && W.ev (m + k) then Hs (m + k + 1) else Hc H0 Hs W.ev L (m + k)) = _
    rw [if_neg hc]

def setL (L : Nat → Bool) (i : Nat) : Nat → Bool := fun j => if j = i then true else L j

theorem Tc_setL {L : Nat → Bool} {i : Nat} {o : Oper} (ho : ops[i]? = some o) (hL : L i = false) (t : Nat) :
    ∀ k, (∀ j x, i < j → j < i + 1 + k → ops[j]? = some x → L j = true → o.dst = some t → x.dst ≠ some t) → Tc ops T0 vs (setL L i) (i + 1 + k) t = if o.dst = some t then vs i else Tc ops T0 vs L (i + 1 + k) t
  | 0, _ => by
    have pre : ∀ m, m ≤ i → Tc ops T0 vs (setL L i) m = Tc ops T0 vs L m := by
      intro m
      induction m with
      | zero => intro _; rfl
      | succ m ih =>
        intro hm
        have hne : m ≠ i := by omega
        show (if setL L i m then putA (Tc ops T0 vs (setL L i) m) _ _ else Tc ops T0 vs (setL L i) m) = (if L m then putA (Tc ops T0 vs L m) _ _ else Tc ops T0 vs L m)
        rw [ih (by omega), show setL L i m = L m from if_neg hne]
    show (if setL L i i then putA (Tc ops T0 vs (setL L i) i) ((ops[i]?).bind (·.dst)) (vs i) else _) t = if o.dst = some t then vs i else (if L i then _ else Tc ops T0 vs L i) t
    rw [show setL L i i = true from if_pos rfl, if_pos rfl, pre i (Nat.le_refl _), hL, ho]
    simp only [Option.bind_some, Bool.false_eq_true, if_false]
    by_cases hd : o.dst = some t
    · rw [if_pos hd, hd, putA_eq]
    · rw [if_neg hd, putA_ne hd]
  | k + 1, h => by
    have ih := Tc_setL ho hL t k (fun j x h1 h2 => h j x h1 (by omega))
    have hne : i + 1 + k ≠ i := by omega
    show (if setL L i (i + 1 + k) then putA (Tc ops T0 vs (setL L i) (i + 1 + k)) ((ops[i + 1 + k]?).bind (·.dst)) (vs (i + 1 + k)) else Tc ops T0 vs (setL L i) (i + 1 + k)) t =
      if o.dst = some t then vs i else (if L (i + 1 + k) then putA (Tc ops T0 vs L (i + 1 + k)) ((ops[i + 1 + k]?).bind (·.dst)) (vs (i + 1 + k)) else Tc ops T0 vs L (i + 1 + k)) t
    rw [show setL L i (i + 1 + k) = L (i + 1 + k) from if_neg hne]
    cases hl : L (i + 1 + k) with
    | false => simp only [Bool.false_eq_true, if_false]; exact ih
    | true =>
      simp only [if_true]
      by_cases hd : (ops[i + 1 + k]?).bind (·.dst) = some t
      · obtain ⟨x, hx, hxd⟩ := Option.bind_eq_some_iff.1 hd
        rw [hd, putA_eq, putA_eq]
        by_cases hod : o.dst = some t
        · exact absurd hxd (h _ x (by omega) (by omega) hx hl hod)
        · rw [if_neg hod]
      · rw [putA_ne hd, putA_ne hd]; exact ih

theorem Hc_setL {L : Nat → Bool} {i : Nat} (hL : L i = false) : ∀ k, (∀ j, i < j → j < i + 1 + k → L j = true → W.ev i = true → W.ev j = false) →
    Hc H0 Hs W.ev (setL L i) (i + 1 + k) = if W.ev i then Hs (i + 1) else Hc H0 Hs W.ev L (i + 1 + k)
  | 0, _ => by
    have pre : ∀ m, m ≤ i → Hc H0 Hs W.ev (setL L i) m = Hc H0 Hs W.ev L m := by
      intro m
      induction m with
      | zero => intro _; rfl
      | succ m ih =>
        intro hm
        have hne : m ≠ i := by omega
        show (if setL L i m && W.ev m then Hs (m + 1) else Hc H0 Hs W.ev (setL L i) m) = (if L m && W.ev m then Hs (m + 1) else Hc H0 Hs W.ev L m)
        rw [ih (by omega), show setL L i m = L m from if_neg hne]
    show (if setL L i i && W.ev i then Hs (i + 1) else Hc H0 Hs W.ev (setL L i) i) = if W.ev i then Hs (i + 1) else (if L i && W.ev i then _ else Hc H0 Hs W.ev L i)
    rw [show setL L i i = true from if_pos rfl, pre i (Nat.le_refl _), hL]
    simp
  | k + 1, h => by
    have ih := Hc_setL hL k (fun j h1 h2 => h j h1 (by omega))
    have hne : i + 1 + k ≠ i := by omega
    show (if setL L i (i + 1 + k) && W.ev (i + 1 + k) then Hs (i + 1 + k + 1) else Hc H0 Hs W.ev (setL L i) (i + 1 + k)) = if W.ev i then Hs (i + 1) else (if L (i + 1 + k) && W.ev (i + 1 + k) then Hs (i + 1 + k + 1) else Hc H0 Hs W.ev L (i + 1 + k))
    rw [show setL L i (i + 1 + k) = L (i + 1 + k) from if_neg hne, ih]
    by_cases he : W.ev i = true
    · rw [if_pos he, if_pos he, if_neg]
      intro hc
      simp only [Bool.and_eq_true] at hc
      rw [h _ (by omega) (by omega) hc.1 he] at hc
      cases hc.2
    · rw [if_neg he, if_neg he]

/-- the heap that stands is one that stood in the order of the text -/
theorem Hc_is {L : Nat → Bool} : ∀ m, Hc H0 Hs W.ev L m = H0 ∨ ∃ k, k < m ∧ Hc H0 Hs W.ev L m = Hs (k + 1)
  | 0 => .inl rfl
  | m + 1 => by
    show (if L m && W.ev m then Hs (m + 1) else Hc H0 Hs W.ev L m) = H0 ∨ ∃ k, k < m + 1 ∧ (if L m && W.ev m then Hs (m + 1) else Hc H0 Hs W.ev L m) = Hs (k + 1)
    split
    · exact .inr ⟨m, by omega, rfl⟩
    · rcases Hc_is m with h | ⟨k, hk, h⟩
      · exact .inl h
      · exact .inr ⟨k, by omega, h⟩

theorem Hs_agree (hst : ∀ (i : Nat) (o : Oper), ops[i]? = some o → StepR P mu n W i (ops.toList.map (·.dst)) o (Ts i) (Hs i) (vs i) (Ts (i + 1)) (Hs (i + 1))) : ∀ m, m ≤ ops.size → W.agree (Hs 0) (Hs m)
  | 0, _ => .refl _ _
  | m + 1, hm => by
    refine (Hs_agree hst m (by omega)).trans ?_
    obtain ⟨b, _, h1, h2⟩ := (hst m _ (Array.getElem?_eq_getElem (by omega))).how
    cases b with
    | true => exact (h1 rfl).2.2.1
    | false => rw [(h2 rfl).2]; exact .refl _ _

theorem Hc_agree {L : Nat → Bool} (h0 : Hs 0 = H0) (hst : ∀ (i : Nat) (o : Oper), ops[i]? = some o → StepR P mu n W i (ops.toList.map (·.dst)) o (Ts i) (Hs i) (vs i) (Ts (i + 1)) (Hs (i + 1))) (m : Nat) (hm : m ≤ ops.size) (i : Nat) (hi : i ≤ ops.size) :
    W.agree (Hs i) (Hc H0 Hs W.ev L m) := by
  refine (Hs_agree hst i hi).symm.trans ?_
  rcases Hc_is (W := W) (H0 := H0) (Hs := Hs) (L := L) m with h | ⟨k, hk, h⟩
  · rw [h, h0]; exact .refl _ _
  · rw [h]; exact Hs_agree hst (k + 1) (by omega)

end main

end Go.Proofs.Ytdmgljlabigljaa.Ab

namespace Go.Proofs.Ytdmgljlabigljaa.Ab
open Go Go.RowKit

variable {base : Nat} {w0 w w' : World} {g : Gh} {H : Hp} {P : Program}

theorem nodup_le : ∀ (N : Nat) (S : List Nat), S.Nodup → (∀ k ∈ S, k < N) → S.length ≤ N
  | 0, S, _, h => by
    cases S with
    | nil => exact Nat.le_refl _
    | cons a l => exact absurd (h a (by simp)) (Nat.not_lt_zero _)
  | N + 1, S, hS, h => by
    by_cases hN : N ∈ S
    · have := nodup_le N (S.erase N) (hS.erase N) (fun k hk => by
        have h1 := h k (List.mem_of_mem_erase hk)
        have h2 : k ≠ N := fun e => by subst e; exact (List.Nodup.not_mem_erase hS) hk
        omega)
      rw [List.length_erase_of_mem hN] at this
      omega
    · have := nodup_le N S hS (fun k hk => by
        have h1 := h k hk
        have h2 : k ≠ N := fun e => by subst e; exact hN hk
        omega)
      omega

theorem guardA_wanted2 {n : Nat} {ops : Array Oper} {done : List (Option Tmp)} {o : Oper} {T : Env} {a : Act} {b : Bool} (hT : TRel g n T a.tmps)
    (hd : ∀ (j : Nat) (s : Tmp), done[j]? = some (some s) → (ops[j]?).bind (·.dst) = some s ∧ s < n) (h : guardA done o.guard T = some b) : Region.wanted o (yielded ops a.tmps) = b := by
  unfold Region.wanted
  cases hg : o.guard with
  | none => rw [hg] at h; simp only [guardA, Option.some.injEq] at h; exact h
  | some p =>
    obtain ⟨j, want⟩ := p
    rw [hg] at h
    simp only [guardA] at h
    split at h
    · rename_i s hs
      obtain ⟨hdst, hsn⟩ := hd j s hs
      have hlt : s < a.tmps.size := by rw [hT.size]; exact hsn
      have hslot := hT.slot s
      rw [Array.getD_eq_getD_getElem?] at hslot
      obtain ⟨x, hx⟩ : ∃ x, a.tmps[s]? = some x := ⟨_, Array.getElem?_eq_getElem hlt⟩
      rw [hx, Option.getD_some] at hslot
      simp only [yielded, hdst, Option.bind_some, hx]
      split at h
      · rename_i t et
        rw [et] at hslot
        cases hslot
        cases h
        simp
      · rename_i v hnb ev
        rw [ev] at hslot
        cases hslot
        cases h
        cases x <;> first | rfl | exact absurd rfl (hnb _ )
      · cases h
    · cases h

theorem isP_call {mu : Nat → Bool} {o : Oper} (h : isP mu o = true) : callOf o = none := by
  obtain ⟨dst, op, type, pos, after, guard⟩ := o
  cases op with
  | call c =>
    obtain ⟨callee, args, aT⟩ := c
    cases callee with
    | builtin b => rfl
    | _ => simp [isP] at h
  | _ => rfl

theorem PerfTo.any {mu : Nat → Bool} {o : Oper} {T : Env} {v : AV} {H' : Hp} (hp : isP mu o = true) (h : PerfTo P mu o T H v H') (H2 : Hp) : PerfTo P mu o T H2 v H2 := by
  unfold PerfTo at h ⊢
  rw [isP_call hp] at h ⊢
  exact (stepA_P hp h H2).2

theorem any_sound {ops : Array Oper} {T0 : Env} {H0 : Hp} {Ts : Nat → Env} {Hs : Nat → Hp} {vs : Nat → AV} {W : Draw} {mu : Nat → Bool} {n : Nat} {bs : List Nat} {r : Option Nat} {Q : Exit → Act → World → Prop} {ds : List Deferred} {g0 : Gh} {K : Env → Hp → Prop}
    (D : Drawn mu W ops bs) (t0 : Ts 0 = T0) (h0 : Hs 0 = H0)
    (hst : ∀ (i : Nat) (o : Oper), ops[i]? = some o → StepR P mu n W i (ops.toList.map (·.dst)) o (Ts i) (Hs i) (vs i) (Ts (i + 1)) (Hs (i + 1))) (hK : K (Ts ops.size) (Hs ops.size))
    (hQ : ∀ T H g w a, K T H → g0.le g → Sim base w0 g H w → TRel g n T a.tmps → a.defers = ds → Q .normal a w) :
    ∀ (fuel : Nat) (listed : Array Bool) (g : Gh) (w : World) (a : Act), listed.size = ops.size →
      (∀ i j, i < ops.size → j < ops.size → listed.getD i false = true → (bs.getD i 0).testBit j = true → listed.getD j false = true) →
      (∀ S : List Nat, S.Nodup → (∀ i ∈ S, i < ops.size ∧ listed.getD i false = false) → S.length ≤ fuel) →
      g0.le g → Sim base w0 g (Hc H0 Hs W.ev (fun i => listed.getD i false) ops.size) w → TRel g n (Tc ops T0 vs (fun i => listed.getD i false) ops.size) a.tmps → a.defers = ds →
      wpAnyIn (FR r) 0 P .any ops Q fuel listed a w := by
  have hdsts : ∀ (j : Nat) (s : Tmp), (ops.toList.map (·.dst))[j]? = some (some s) → (ops[j]?).bind (·.dst) = some s ∧ s < n := by
    intro j s hs
    rw [List.getElem?_map, Option.map_eq_some_iff] at hs
    obtain ⟨o, ho, hd⟩ := hs
    have ho' : ops[j]? = some o := by simpa using ho
    refine ⟨by rw [ho']; exact hd, ?_⟩
    have := (hst j o ho').dst
    rw [hd] at this
    simpa [dstOk] using this
  have alldone : ∀ (listed : Array Bool) (g : Gh) (w : World) (a : Act), listed.size = ops.size → Region.ready .any ops listed = [] → g0.le g → Sim base w0 g (Hc H0 Hs W.ev (fun i => listed.getD i false) ops.size) w →
      TRel g n (Tc ops T0 vs (fun i => listed.getD i false) ops.size) a.tmps → a.defers = ds → Q .normal a w := by
    intro listed g w a hsz hr hg S hT hd
    have hall : ∀ i, i < ops.size → listed.getD i false = true := by
      intro i
      induction i using Nat.strongRecOn with
      | _ i ih =>
        intro hi
        cases hl : listed.getD i false with
        | true => rfl
        | false =>
          exfalso
          have hmem : i ∈ Region.ready .any ops listed := by
            rw [mem_ready]
            have ho : ops[i]? = some ops[i] := Array.getElem?_eq_getElem hi
            refine ⟨?_, ops[i], ho, fun e he hb => ?_⟩
            · rw [Array.getD_eq_getD_getElem?, Array.getElem?_eq_getElem (by omega), Option.getD_some] at hl ⊢
              exact hl
            · have := D.back i _ ho e he hb
              exact ih e.on this (by omega)
          rw [hr] at hmem
          cases hmem
    have eT : Tc ops T0 vs (fun i => listed.getD i false) ops.size = Ts ops.size := by
      funext t
      exact Tc_upto t0 hst t ops.size (Nat.le_refl _) (fun j o hj _ _ => hall j hj)
    have eH : Hc H0 Hs W.ev (fun i => listed.getD i false) ops.size = Hs ops.size := Hc_upto h0 hst ops.size (Nat.le_refl _) (fun j hj _ => hall j hj)
    rw [eT] at hT
    rw [eH] at S
    exact hQ _ _ g w a hK hg S hT hd
  intro fuel
  induction fuel with
  | zero =>
    intro listed g w a hsz hcl hcnt hg S hT hd
    have hr : Region.ready .any ops listed = [] := by
      apply List.eq_nil_iff_forall_not_mem.2
      intro i hi
      rw [mem_ready] at hi
      obtain ⟨h1, o, ho, _⟩ := hi
      have hlt : i < ops.size := (Array.getElem?_eq_some_iff.1 ho).1
      have := hcnt [i] (by simp) (by
        intro j hj
        simp only [List.mem_singleton] at hj
        subst hj
        refine ⟨hlt, ?_⟩
        rw [Array.getD_eq_getD_getElem?, Array.getElem?_eq_getElem (by omega), Option.getD_some] at h1 ⊢
        exact h1)
      simp at this
    exact ⟨hr, alldone listed g w a hsz hr hg S hT hd⟩
  | succ fuel ih =>
    intro listed g w a hsz hcl hcnt hg S hT hd
    refine ⟨fun hr => alldone listed g w a hsz hr hg S hT hd, fun i hi => ?_⟩
    rw [mem_ready] at hi
    obtain ⟨hli0, o, ho, hedges⟩ := hi
    have hlt : i < ops.size := (Array.getElem?_eq_some_iff.1 ho).1
    have hli : listed.getD i false = false := by
      rw [Array.getD_eq_getD_getElem?, Array.getElem?_eq_getElem (by omega), Option.getD_some] at hli0 ⊢
      exact hli0
    -- what stands before i has been done
    have hanc : ∀ j, j < ops.size → (bs.getD i 0).testBit j = true → listed.getD j false = true := by
      intro j hj ht
      obtain ⟨e, he, hb, h | h⟩ := D.cert i j o ho hj ht
      · subst h; exact hedges e he hb
      · exact hcl e.on j (by have := D.back i o ho e he hb; omega) hj (hedges e he hb) h
    have hlater : ∀ j, j < ops.size → (bs.getD j 0).testBit i = true → listed.getD j false = false := by
      intro j hj ht
      cases hl : listed.getD j false with
      | false => rfl
      | true => rw [hcl j i hj hlt hl ht] at hli; cases hli
    have hslot : ∀ t, t ∈ o.looksAt ops → Tc ops T0 vs (fun i => listed.getD i false) ops.size t = Ts i t := by
      intro t ht
      have h1 := Tc_upto (L := fun i => listed.getD i false) (T0 := T0) t0 hst t i (by omega) (fun j x hj hx hxd => by
        rcases D.free j i x o hx ho hj with h | ⟨h, _⟩
        · exact hanc j (by omega) h
        · exact absurd ht ((Oper.apart_spec h).1 t hxd))
      have h2 := Tc_from (ops := ops) (T0 := T0) (vs := vs) (L := fun i => listed.getD i false) t i (ops.size - i) (fun j x hj hj' hx hxd => by
        rcases Nat.eq_or_lt_of_le hj with rfl | hj
        · exact hli
        · rcases D.free i j o x ho hx hj with h | ⟨h, _⟩
          · exact hlater j (by omega) h
          · exact absurd ht ((Oper.apart_spec h).2.2 t hxd))
      rw [show i + (ops.size - i) = ops.size by omega] at h2
      rw [h2, h1]
    have hheap : (W.ev i = true ∨ (isP mu o || W.rf i) = false) → Hc H0 Hs W.ev (fun i => listed.getD i false) ops.size = Hs i := by
      intro hc
      have h1 := Hc_upto (L := fun i => listed.getD i false) h0 hst i (by omega) (fun j hj hev => by
        have hx : ops[j]? = some ops[j] := Array.getElem?_eq_getElem (by omega)
        rcases D.free j i _ o hx ho hj with h | ⟨_, h⟩
        · exact hanc j (by omega) h
        · rcases hc with hc | hc <;> simp [confl, hev, hc] at h)
      have h2 := Hc_from (H0 := H0) (Hs := Hs) (W := W) (L := fun i => listed.getD i false) i (ops.size - i) (fun j hj hj' hev => by
        rcases Nat.eq_or_lt_of_le hj with rfl | hj
        · exact hli
        · have hx : ops[j]? = some ops[j] := Array.getElem?_eq_getElem (by omega)
          rcases D.free i j o _ ho hx hj with h | ⟨_, h⟩
          · exact hlater j (by omega) h
          · rcases hc with hc | hc <;> simp [confl, hev, hc] at h)
      rw [show i + (ops.size - i) = ops.size by omega] at h2
      rw [h2, h1]
    obtain ⟨hdst, hput, b, hgd, hyes, hno⟩ := hst i o ho
    have hops : ∀ x ∈ o.op.operands, evA (Ts i) x = evA (Tc ops T0 vs (fun i => listed.getD i false) ops.size) x := by
      intro x hx
      refine evA_congr fun t e => ?_
      subst e
      exact (hslot t (List.mem_append_left _ (List.mem_filterMap.2 ⟨.tmp t, by simpa using hx, rfl⟩))).symm
    have hgd' : guardA (ops.toList.map (·.dst)) o.guard (Tc ops T0 vs (fun i => listed.getD i false) ops.size) = some b := by
      rw [← hgd]
      cases hgu : o.guard with
      | none => rfl
      | some p =>
        obtain ⟨j, want⟩ := p
        simp only [guardA]
        cases hq : (ops.toList.map (·.dst))[j]? with
        | none => rfl
        | some q =>
          cases q with
          | none => rfl
          | some s =>
            have hs := (hdsts j s hq).1
            simp only
            rw [hslot s (List.mem_append_right _ (by rw [hgu]; simp [hs]))]
    have hwant := guardA_wanted2 (ops := ops) hT hdsts hgd'
    -- the listed ones, with i
    have hset : ∀ j, (listed.setIfInBounds i true).getD j false = setL (fun i => listed.getD i false) i j := by
      intro j
      unfold setL
      by_cases hj : j = i
      · subst hj
        rw [if_pos rfl, Array.getD_eq_getD_getElem?, Array.getElem?_setIfInBounds, if_pos rfl, if_pos (by omega)]
        rfl
      · rw [if_neg hj, getD_set_ne _ (Ne.symm hj)]
    have hsetf : (fun j => (listed.setIfInBounds i true).getD j false) = setL (fun i => listed.getD i false) i := funext hset
    have hTc : Tc ops T0 vs (setL (fun i => listed.getD i false) i) ops.size = putA (Tc ops T0 vs (fun i => listed.getD i false) ops.size) o.dst (vs i) := by
      funext t
      have h1 := Tc_setL (T0 := T0) (vs := vs) (L := fun i => listed.getD i false) ho hli t (ops.size - (i + 1)) (fun j x hj hj' hx hl hod hxd => by
        rcases D.free i j o x ho hx hj with h | ⟨h, _⟩
        · have h2 := hlater j (by omega) h
          have hl : listed.getD j false = true := hl
          rw [h2] at hl; cases hl
        · exact (Oper.apart_spec h).2.1 t hod hxd)
      rw [show i + 1 + (ops.size - (i + 1)) = ops.size by omega] at h1
      rw [h1]
      by_cases hod : o.dst = some t
      · rw [if_pos hod, hod, putA_eq]
      · rw [if_neg hod, putA_ne hod]
    have hHc : Hc H0 Hs W.ev (setL (fun i => listed.getD i false) i) ops.size = if W.ev i then Hs (i + 1) else Hc H0 Hs W.ev (fun i => listed.getD i false) ops.size := by
      have h1 := Hc_setL (H0 := H0) (Hs := Hs) (W := W) (L := fun i => listed.getD i false) hli (ops.size - (i + 1)) (fun j hj hj' hl hei => by
        have hx : ops[j]? = some ops[j] := Array.getElem?_eq_getElem (by omega)
        rcases D.free i j o _ ho hx hj with h | ⟨_, h⟩
        · have h2 := hlater j (by omega) h
          have hl : listed.getD j false = true := hl
          rw [h2] at hl; cases hl
        · cases hej : W.ev j with
          | false => rfl
          | true => simp [confl, hei, hej] at h)
      rw [show i + 1 + (ops.size - (i + 1)) = ops.size by omega] at h1
      exact h1
    have hcl' : ∀ k j, k < ops.size → j < ops.size → (listed.setIfInBounds i true).getD k false = true → (bs.getD k 0).testBit j = true → (listed.setIfInBounds i true).getD j false = true := by
      intro k j hk hj hl ht
      rw [hset] at hl ⊢
      unfold setL at hl ⊢
      by_cases hji : j = i
      · rw [if_pos hji]
      · rw [if_neg hji]
        by_cases hki : k = i
        · subst hki; exact hanc j hj ht
        · rw [if_neg hki] at hl; exact hcl k j hk hj hl ht
    have hcnt' : ∀ S : List Nat, S.Nodup → (∀ k ∈ S, k < ops.size ∧ (listed.setIfInBounds i true).getD k false = false) → S.length ≤ fuel := by
      intro S hS hk
      have := hcnt (i :: S) (List.nodup_cons.2 ⟨fun hm => by have := (hk i hm).2; rw [hset] at this; simp [setL] at this, hS⟩) (fun k hkm => by
        rcases List.mem_cons.1 hkm with rfl | hkm
        · exact ⟨hlt, hli⟩
        · have h1 := hk k hkm
          refine ⟨h1.1, ?_⟩
          have h2 := h1.2
          rw [hset] at h2
          unfold setL at h2
          by_cases hki : k = i
          · rw [if_pos hki] at h2; cases h2
          · rw [if_neg hki] at h2; exact h2)
      simp at this
      omega
    have hdef : ∀ z, (a.put o.dst z).defers = ds := by intro z; rw [← hd]; cases o.dst <;> rfl
    have go : ∀ z H' g' w', H' = (if W.ev i then Hs (i + 1) else Hc H0 Hs W.ev (fun i => listed.getD i false) ops.size) → g.le g' → Sim base w0 g' H' w' → R g' (vs i) z →
        wpAnyIn (FR r) 0 P .any ops Q fuel (listed.setIfInBounds i true) (a.put o.dst z) w' := by
      intro z H' g' w' hH hg' S' hR
      refine ih _ g' w' _ (by simpa using hsz) hcl' hcnt' (hg.trans hg') ?_ ?_ (hdef z)
      · rw [hsetf, hHc, ← hH]; exact S'
      · rw [hsetf, hTc]; exact (hT.mono hg').put hdst hR
    unfold wpOpIn
    rw [ho]
    simp only
    cases b with
    | true =>
      rw [if_pos hwant]
      obtain ⟨hp, hsame⟩ := hyes rfl
      have hp' := hp.congr hops
      have hperf : PerfTo P mu o (Tc ops T0 vs (fun i => listed.getD i false) ops.size) (Hc H0 Hs W.ev (fun i => listed.getD i false) ops.size) (vs i) (if W.ev i then Hs (i + 1) else Hc H0 Hs W.ev (fun i => listed.getD i false) ops.size) := by
        cases hev : W.ev i with
        | true =>
          rw [if_pos rfl, hheap (.inl hev)]
          exact hp'
        | false =>
          rw [if_neg (by simp)]
          cases hpp : isP mu o with
          | true => exact hp'.any hpp _
          | false =>
            cases hrf : W.rf i with
            | true => exact (hsame.2.2 hrf _ (Hc_agree h0 hst _ (Nat.le_refl _) i (by omega))).congr hops
            | false =>
              rw [hheap (.inr (by rw [hpp, hrf]; rfl))]
              rw [hsame.1 hev] at hp'
              exact hp'
      refine hperf.ok base w0 g w a r S (fun x _ => evA_rel hT x) _ _ (fun v z H' g' w' hk hg' S' hR => ?_)
      obtain ⟨rfl, rfl⟩ := hk
      exact go z _ g' w' rfl hg' S' hR
    | false =>
      rw [if_neg (by rw [hwant]; simp)]
      obtain ⟨hv, hH⟩ := hno rfl
      refine ⟨fun _ _ => trivial, ?_⟩
      refine go undef _ g w ?_ (Gh.le.refl g) S (by rw [hv]; exact .val _)
      cases hev : W.ev i with
      | true => rw [if_pos rfl, hH]; exact hheap (.inl hev)
      | false => rw [if_neg (by simp)]

/-- a region that draws its order -/
theorem Awp.drawn {n : Nat} {rd : Option Nat} {T : Env} {Q : Exit → Env → Hp → Prop} {id : Nat} {ops : Array Oper} (hm : P.follows .mixedOrders = true) (mu : Nat → Bool) (W : Draw) (bs : List Nat) (hok : drawOk mu W ops bs = true)
    (h : wpO P mu n (some W) [] ops.toList T H (Q .normal)) : Awp P n rd (.region id ops true) T H Q := by
  intro base w0 g w a r S hT hr
  refine wpIn_region_any hm ?_
  obtain ⟨Ts, Hs, vs, t0, h0, hK, hst⟩ := trace_of _ _ _ _ h
  have hst' : ∀ (i : Nat) (o : Oper), ops[i]? = some o → StepR P mu n W i (ops.toList.map (·.dst)) o (Ts i) (Hs i) (vs i) (Ts (i + 1)) (Hs (i + 1)) := by
    intro i o ho
    have := hst i o (by simpa using ho)
    simpa using this
  have hT0 : ∀ m, Tc ops T vs (fun i => (Array.replicate ops.size false).getD i false) m = T := by
    intro m
    induction m with
    | zero => rfl
    | succ m ih =>
      show (if (Array.replicate ops.size false).getD m false = true then _ else _) = T
      rw [if_neg (by rw [Array.getD_eq_getD_getElem?, Array.getElem?_replicate]; split <;> simp), ih]
  have hH0 : ∀ m, Hc H Hs W.ev (fun i => (Array.replicate ops.size false).getD i false) m = H := by
    intro m
    induction m with
    | zero => rfl
    | succ m ih =>
      show (if ((Array.replicate ops.size false).getD m false && W.ev m) = true then _ else _) = H
      rw [if_neg (by rw [Array.getD_eq_getD_getElem?, Array.getElem?_replicate]; split <;> simp), ih]
  have hrep : ∀ i, (Array.replicate ops.size false).getD i false = false := by
    intro i
    rw [Array.getD_eq_getD_getElem?, Array.getElem?_replicate]; split <;> rfl
  refine any_sound (base := base) (w0 := w0) (n := n) (K := Q .normal) (g0 := g) (ds := a.defers) (drawOk_spec hok) t0 h0 hst' (by simpa using hK) ?_ ops.size _ g _ a (by simp) (fun i j _ _ hl _ => by rw [hrep] at hl; cases hl) (fun S hS hk => ?_) (Gh.le.refl g)
    (by rw [hH0]; exact S.drew) (by rw [hT0]; exact hT) rfl
  · exact fun T' H' g' w' a' hk hg S' hT' hd => ⟨T', H', g', [], hk, hg, S', hT', hd, Marks.nil _ _⟩
  · exact nodup_le _ S hS fun k hkm => (hk k hkm).1

end Go.Proofs.Ytdmgljlabigljaa.Ab

namespace Go.Proofs.Ytdmgljlabigljaa.Ab
open Go Go.RowKit

variable {base : Nat} {w0 w w' : World} {g : Gh} {H : Hp} {P : Program}

/-! ### results -/

def resV (P : Program) (T : Env) (H : Hp) : ResultVar → Option AV
  | .tmp t => some (T t)
  | .cell a t => match T a with
    | .rptr cs off => loadA P t cs off
    | .mptr b i off => match H[b]? with
      | some (.cells es _) => match es[i]? with
        | some e => loadA P t e off
        | none => none
      | _ => none
    | _ => none

def resL (P : Program) (T : Env) (H : Hp) : List ResultVar → Option (List AV)
  | [] => some []
  | r :: rs => match resV P T H r, resL P T H rs with
    | some v, some vs => some (v :: vs)
    | _, _ => none

def oneOf : List AV → AV
  | [v] => v
  | vs => .tup vs

def resSem (tmps : Array Value) : ResultVar → Sem Value
  | .tmp t => pure (tmps.getD t undef)
  | .cell a t => do loadVar t (← asAddr (tmps.getD a undef))

theorem resV_run (S : Sim base w0 g H w) {n : Nat} {T : Env} {tmps : Array Value} (hT : TRel g n T tmps) {r : ResultVar} {v : AV} (h : resV P T H r = some v) :
    ∃ z, (resSem tmps r).run P w = .ok z w ∧ R g v z := by
  cases r with
  | tmp t =>
    simp only [resV, Option.some.injEq] at h
    subst h
    exact ⟨_, rfl, hT.slot t⟩
  | cell x t =>
    have hx := hT.slot x
    have fin : ∀ z, (∃ ad : Addr, tmps.getD x undef = .pointer (some ad)) → (Instr.loadAt t (tmps.getD x undef)).run P w = .ok z w → (resSem tmps (.cell x t)).run P w = .ok z w := by
      rintro z ⟨ad, hu⟩ h1
      rw [hu] at h1
      show (do loadVar t (← asAddr (tmps.getD x undef)) : Sem Value).run P w = _
      rw [hu]
      exact h1
    simp only [resV] at h
    split at h
    · rename_i cs off e
      rw [e] at hx
      have hp : ∃ ad : Addr, tmps.getD x undef = .pointer (some ad) := by generalize tmps.getD x undef = u at hx; cases hx; exact ⟨_, rfl⟩
      obtain ⟨z, h1, h2⟩ := loadA_run (w := w) (g := g) h (tmps.getD x undef) hp (fun j c hc => R.rptr_cell S hx hc)
      exact ⟨z, fin z hp h1, h2⟩
    · rename_i b i off e
      rw [e] at hx
      have hp : ∃ ad : Addr, tmps.getD x undef = .pointer (some ad) := by generalize tmps.getD x undef = u at hx; cases hx; exact ⟨_, rfl⟩
      split at h
      · rename_i es t' hb
        split at h
        · rename_i e' he
          obtain ⟨z, h1, h2⟩ := loadA_run (w := w) (g := g) h (tmps.getD x undef) hp (fun j c hc => R.mptr_cell S hx hb he hc)
          exact ⟨z, fin z hp h1, h2⟩
        · cases h
      · cases h
    · cases h

theorem resL_run (S : Sim base w0 g H w) {n : Nat} {T : Env} {tmps : Array Value} (hT : TRel g n T tmps) : ∀ (rs : List ResultVar) (vs : List AV), resL P T H rs = some vs →
    ∃ zs : List Value, (rs.mapM (resSem tmps)).run P w = .ok zs w ∧ RCells g vs zs.toArray
  | [], vs, h => by
    simp only [resL, Option.some.injEq] at h
    subst h
    exact ⟨[], rfl, rfl, by simp⟩
  | r :: rs, vs, h => by
    simp only [resL] at h
    split at h
    · rename_i v vs' h1 h2
      cases h
      obtain ⟨z, k1, k2⟩ := resV_run S hT h1
      obtain ⟨zs, k3, k4⟩ := resL_run S hT rs vs' h2
      refine ⟨z :: zs, ?_, by simpa using k4.size, fun i c u hc hu => ?_⟩
      · rw [List.mapM_cons, Sem.run_bind, k1]
        simp only [Result.andThen_ok, Sem.run_bind]
        rw [k3]
        rfl
      · cases i with
        | zero => simp at hc hu; subst hc; subst hu; exact k2
        | succ i => exact k4.cell i c u (by simpa using hc) (by simpa using hu)
    · cases h

theorem results_run (S : Sim base w0 g H w) {n : Nat} {T : Env} {tmps : Array Value} (hT : TRel g n T tmps) {fn : Func} {vs : List AV} (h : resL P T H fn.results.toList = some vs) :
    ∃ z, (results fn tmps).run P w = .ok z w ∧ R g (oneOf vs) z := by
  obtain ⟨zs, h1, h2⟩ := resL_run S hT fn.results.toList vs h
  have hrun : (results fn tmps).run P w = .ok (if h : zs.toArray.size = 1 then zs.toArray[0] else .tuple zs.toArray) w := by
    show (do let vs ← fn.results.mapM (resSem tmps); pure (if h : vs.size = 1 then vs[0] else .tuple vs) : Sem Value).run P w = _
    rw [Array.mapM_eq_mapM_toList, Sem.run_bind, Sem.run_map, h1]
    rfl
  refine ⟨_, hrun, ?_⟩
  have hsz := h2.size
  cases vs with
  | nil =>
    rw [dif_neg (by simp at hsz; simp [← hsz])]
    exact .tup h2.size h2.cell
  | cons v vs =>
    cases vs with
    | nil =>
      have h1' : zs.toArray.size = 1 := by simpa using hsz.symm
      rw [dif_pos h1']
      exact h2.cell 0 v _ rfl (Array.getElem?_eq_getElem (by omega))
    | cons u us =>
      rw [dif_neg (by simp at hsz; simp; omega)]
      exact .tup h2.size h2.cell

/-! ### the marks are taken -/

theorem Sim.take {r : Nat} (S : Sim base w0 g H w) (hr : g.mr r) : ∃ g' w', (Instr.takeDeferred r).run P w = .ok [] w' ∧ g.same g' ∧ (∀ x, g'.mr x ↔ g.mr x ∧ x ≠ r) ∧ Sim base w0 g' H w' := by
  obtain ⟨h1, h2, h3⟩ := S.marks r hr
  refine ⟨{ g with mr := fun x => g.mr x ∧ x ≠ r }, _, run_takeDeferred h3, ⟨rfl, rfl, rfl, rfl⟩, fun _ => Iff.rfl, ?_⟩
  have hsame : g.same { g with mr := fun x => g.mr x ∧ x ≠ r } := ⟨rfl, rfl, rfl, rfl⟩
  have hoth : ∀ k, k ≠ r → (w.putObj r (.deferred none)).heap[k]? = w.heap[k]? := by
    intro k hk
    simp only [World.putObj]
    rw [Array.getElem?_setIfInBounds_ne (by omega)]
  have hsz : (w.putObj r (.deferred none)).heap.size = w.heap.size := by simp [World.putObj]
  have hnr : ∀ b o v, g.fz b o = some v → b ≠ r := by
    rintro b o v hv rfl
    have := S.fz b o v hv
    simp [World.cell?, h3] at this
  exact
  { below := S.below.trans ⟨rfl, rfl, rfl, by rw [hsz]; exact Nat.le_refl _, fun k hk => hoth k (by omega)⟩
    low := by rw [hsz]; exact S.low
    fz := fun b o v hv => (World.cell?_of_block (a := ⟨b, o, none⟩) (hoth b (hnr b o v hv))).trans (S.fz b o v hv)
    dom := S.dom
    pos := fun b x hx => by rw [hsz]; exact S.pos b x hx
    sep := fun b x ob hb hn hx => ⟨(S.sep b x ob hb hn hx).1, fun h => (S.sep b x ob hb hn hx).2 h.1⟩
    inj := S.inj
    obj := fun b ob hb hn => by
      obtain ⟨x, o, k1, k2, k3⟩ := S.obj b ob hb hn
      refine ⟨x, o, k1, (hoth x (fun e => ?_)).trans k2, k3.same hsame⟩
      subst e
      exact (S.sep b x ob hb hn k1).2 hr
    marks := fun x hx => by
      obtain ⟨k1, k2, k3⟩ := S.marks x hx.1
      exact ⟨k1, by rw [hsz]; exact k2, (hoth x hx.2).trans k3⟩ }

theorem leaves_marks {fn : Func} {n : Nat} {T : Env} {tmps : Array Value} {R0 : Ending → World → Prop} {gi : Gh}
    (hfin : ∀ g w, gi.le g → Sim base w0 g H w → TRel g n T tmps → ∃ v, (results fn tmps).run P w = .ok v w ∧ R0 (.returned v) w) :
    ∀ (ds : List Deferred) (g : Gh) (w : World), Sim base w0 g H w → TRel g n T tmps → gi.le g → Marks gi g ds → LeavesInM Fence.wide 0 P fn tmps R0 ds .returning w
  | [], g, w, S, hT, hg, _ => hfin g w hg S hT
  | d :: ds, g, w, S, hT, hg, hm => by
    obtain ⟨r, rfl, h1, h2⟩ := hm.mark d (by simp)
    obtain ⟨g', w', k1, k2, k3, k4⟩ := S.take (P := P) h1
    have hg' : gi.le g' := ⟨fun b o v h => by rw [k2.fz]; exact hg.fz b o v h, fun b x h => by rw [k2.ph]; exact hg.ph b x h, fun b x h => by rw [k2.ks]; exact hg.ks b x h,
      fun b x h => by rw [k2.cp]; exact hg.cp b x h, fun x h => (k3 x).2 ⟨hg.mr x h, fun e => by subst e; exact h2 h⟩⟩
    refine ⟨by simp, .inl ⟨r, w', rfl, k1, ?_⟩⟩
    refine leaves_marks hfin ds g' w' k4 (hT.same k2) hg' ⟨fun e he => ?_, hm.nodup.tail⟩
    obtain ⟨s, rfl, l1, l2⟩ := hm.mark e (by simp [he])
    refine ⟨s, rfl, (k3 s).2 ⟨l1, fun hs => ?_⟩, l2⟩
    subst hs
    have := (List.pairwise_cons.1 hm.nodup).1 _ he
    simp at this

/-! ### a function -/

def env0 (args : List AV) : Env := fun t => args.getD t (.val undef)

def bodyQ (P : Program) (fn : Func) (H0 : Hp) (Post : AV → Hp → Prop) : Exit → Env → Hp → Prop := fun e T H =>
  (e = .normal ∨ e = .ret) ∧ ∃ vs a H', resL P T H fn.results.toList = some vs ∧ Vs H0 (oneOf vs) H a H' ∧ Post a H'

theorem ACalls.of_body {f : FuncId} {fn : Func} {c : Code} {args : List AV} {Post : AV → Hp → Prop} (hf : P.funcs[f]? = some fn) (hb : fn.body = some c) (hcl : callable P f = true) (hl : args.length ≤ fn.ntmps)
    (h : Awp P fn.ntmps none c (env0 args) H (bodyQ P fn H Post)) : ACalls P f args H Post := by
  refine ⟨hcl, fun base w0 g w vs S hr => ?_⟩
  refine callsIn_of_wp_marks hf hb trivial ?_ rfl
  have hsz := hr.size
  have hT : TRel g fn.ntmps (env0 args) (vs ++ Array.replicate (fn.ntmps - vs.size) undef) := by
    refine ⟨by simp; omega, fun t => ?_⟩
    rw [Array.getD_eq_getD_getElem?, Array.getElem?_append]
    unfold env0
    by_cases ht : t < vs.size
    · rw [if_pos ht, Array.getElem?_eq_getElem ht, Option.getD_some, List.getD_eq_getElem?_getD, List.getElem?_eq_getElem (by omega), Option.getD_some]
      exact hr.cell t _ _ (List.getElem?_eq_getElem (by omega)) (Array.getElem?_eq_getElem ht)
    · rw [if_neg ht, List.getD_eq_getElem?_getD, List.getElem?_eq_none (by omega), Option.getD_none]
      have : ((Array.replicate (fn.ntmps - vs.size) undef)[t - vs.size]?).getD undef = undef := by
        rw [Array.getElem?_replicate]; split <;> rfl
      rw [this]
      exact .val _
  have hw := h base w0 g w { tmps := vs ++ Array.replicate (fn.ntmps - vs.size) undef, defers := [] } none S hT trivial
  refine (wpIn_mono hw fun e a' w' ⟨T', H', g', ds, ⟨he, us, a, H'', h1, h2, h3⟩, h4, h5, h6, h7, h8⟩ => ?_ : Code.wpIn Fence.wide 0 P c _ _ w)
  have hd : a'.defers = ds := by rw [h7]; simp
  have hleave : LeavesInM Fence.wide 0 P fn a'.tmps (fun e w' => ∃ v a H' g', e = .returned v ∧ Post a H' ∧ g.le g' ∧ Sim base w0 g' H' w' ∧ R g' a v) a'.defers .returning w' := by
    rw [hd]
    refine leaves_marks (n := fn.ntmps) (T := T') (gi := g) (fun g2 w2 k1 k2 k3 => ?_) ds g' w' h5 h6 h4 h8
    obtain ⟨z, k4, k5⟩ := results_run k2 k3 h1
    have hbel : ∀ (b : Nat) (ob : AObj), H[b]? = some ob → ob ≠ .dead → BelO H.length ob := by
      intro b ob hb hn
      obtain ⟨x, o, _, _, h3⟩ := S.obj b ob hb hn
      exact h3.bel S.dom
    obtain ⟨g3, k6, k7, k8⟩ := h2 base w0 g g2 w2 z S.dom hbel k1 k2 k5
    exact ⟨z, k4, z, a, H'', g3, rfl, h3, k6, k7, k8⟩
  rcases he with rfl | rfl
  · exact hleave
  · exact hleave

/-! ### what was made never turns again -/

theorem freeze_R (S : Sim base w0 g H w) {b y : Nat} {es : List (List AV)} {t : TypeId} (hb : H[b]? = some (.cells es t)) (hy : g.ph b = some y) :
    ∃ g', g.le g' ∧ Sim base w0 g' (H.set b .dead) w ∧ ∀ off len x, off + len ≤ es.length → R g (.msl b off len) x → R g' (.rsl ((es.drop off).take len) false) x := by
  obtain ⟨z, o, h1, h2, h3⟩ := S.obj b _ hb (by simp)
  rw [hy] at h1; cases h1
  cases h3 with
  | cells hs hl hk hr =>
    rename_i cur
    refine ⟨_, S.freeze_le hb (by simp) hy (es.length * g.ks b) cur, S.freeze hb (by simp) hy h2, fun off len x hfit hR => ?_⟩
    have hle := S.freeze_le hb (by simp) hy (es.length * g.ks b) cur
    cases hR with
    | msl hx hl' hc hm =>
      rename_i x cap
      rw [hy] at hx; cases hx
      have hln : ((es.drop off).take len).length = len := by simp; omega
      have hget : ∀ (i : Nat) (e : List AV), ((es.drop off).take len)[i]? = some e → i < len ∧ es[off + i]? = some e := by
        intro i e he
        rw [List.getElem?_take] at he
        split at he
        · rw [List.getElem?_drop] at he; exact ⟨by assumption, he⟩
        · cases he
      refine R.rsl (k := g.ks b) (fun i j => cur[(off + i) * g.ks b + j]?.getD undef) hln.symm hl' (by simp) hm (fun i e he => hk _ e (hget i e he).2) (fun i j hi hj => ?_) (fun i e j c he hc => ?_)
      · rw [hln] at hi
        show (if y = y then (if off * g.ks b + i * g.ks b + j < es.length * g.ks b then cur[off * g.ks b + i * g.ks b + j]? else none) else _) = _
        have hlt := idx_lt (show off + i < es.length by omega) hj
        have e0 := Nat.add_mul off i (g.ks b)
        rw [if_pos rfl, if_pos (by omega), ← e0]
        have hc2 := Nat.mul_le_mul_right (g.ks b) hl
        have : (off + i) * g.ks b + j < cur.size := by omega
        simp [this]
      · obtain ⟨hi, he'⟩ := hget i e he
        obtain ⟨v, k1, k2⟩ := hr _ e j c he' hc
        simp only [k1, Option.getD_some]
        exact k2.mono hle

theorem Vs.freeze {H0 : Hp} {b off len : Nat} {es : List (List AV)} {t : TypeId} (hb : H[b]? = some (.cells es t)) (hfit : off + len ≤ es.length) :
    Vs H0 (.msl b off len) H (.rsl ((es.drop off).take len) false) (H.set b .dead) := by
  intro base w0 g0 g w x _ _ hg S hR
  have hR' := hR
  cases hR with
  | msl hx hl hc hm =>
    obtain ⟨g', h1, h2, h3⟩ := freeze_R S hb hx
    exact ⟨g', hg.trans h1, h2, h3 off len _ hfit hR'⟩

theorem Vs.freeze_tup {H0 : Hp} {cs : List AV} {i b off len : Nat} {es : List (List AV)} {t : TypeId} (hi : cs[i]? = some (.msl b off len)) (hb : H[b]? = some (.cells es t)) (hfit : off + len ≤ es.length) :
    Vs H0 (.tup cs) H (.tup (cs.set i (.rsl ((es.drop off).take len) false))) (H.set b .dead) := by
  intro base w0 g0 g w x _ _ hg S hR
  cases hR with
  | tup hl hr =>
    rename_i vs
    have hlt : i < vs.size := by rw [← hl]; exact (List.getElem?_eq_some_iff.1 hi).1
    have hRi := hr i _ vs[i] hi (Array.getElem?_eq_getElem hlt)
    have hRi' := hRi
    generalize hv : vs[i] = v at hRi hRi'
    cases hRi with
    | msl hx hl' hc hm =>
      obtain ⟨g', h1, h2, h3⟩ := freeze_R S hb hx
      refine ⟨g', hg.trans h1, h2, .tup (by simpa using hl) (fun j c u hc' hu => ?_)⟩
      rw [List.getElem?_set] at hc'
      split at hc'
      · rename_i e
        subst e
        split at hc'
        · cases hc'
          rw [Array.getElem?_eq_getElem hlt, hv] at hu
          cases hu
          exact h3 off len _ hfit hRi'
        · cases hc'
      · exact (hr j c u hc' hu).mono h1

end Go.Proofs.Ytdmgljlabigljaa.Ab

namespace Go.Proofs.Ytdmgljlabigljaa.Ab
open Go Go.RowKit

variable {base : Nat} {w0 w w' : World} {g : Gh} {H : Hp} {P : Program}

theorem grownBy_put (w : World) (x : Nat) (o : Obj) : w.grownBy (w.putObj x o) (some x) :=
  ⟨rfl, rfl, rfl, by simp [World.putObj], fun k _ hk => by simp only [World.putObj]; rw [Array.getElem?_setIfInBounds_ne (fun e => hk (by rw [e]))]⟩

theorem heap_put {w : World} {x : Nat} {o : Obj} (h : x < w.heap.size) : (w.putObj x o).heap[x]? = some o := by
  simp [World.putObj, h]

theorem run_getLoop {l : Nat} {r : Loop} (h : w.heap[l]? = some (.loop r)) : (Instr.getLoop l).run P w = .ok r w := by
  simp [Instr.getLoop, getObj, Sem.run, h]

theorem run_setObj {l : Nat} {r : Loop} {o : Obj} (h : w.heap[l]? = some (.loop r)) : (setObj l o).run P w = .ok () (w.putObj l o) := by
  simp [setObj, Sem.run, h, World.putObj]

/-- a loop's record turns -/
theorem Sim.loop (S : Sim base w0 g H w) {b : Nat} {st st' : LoopState} {pend pend' : Option Code} {f : FuncId} {T : Env} {n : Nat} {ps : Array Tmp} {assign body : Code} {D : Nat}
    (hb : H[b]? = some (.loop st pend f T n ps assign body D)) : ∃ (l : Nat) (tmps : Array Value) (f' : FuncId) (D' : Nat), g.ph b = some l ∧ l < w.heap.size ∧ TRel g n T tmps ∧ w.heap[l]? = some (.loop { state := st, pending := pend, fn := f', tmps, params := ps, assign, body, defers := D' }) ∧
      Sim base w0 g (H.set b (.loop st' pend' f T n ps assign body D)) (w.putObj l (.loop { state := st', pending := pend', fn := f', tmps, params := ps, assign, body, defers := D' })) := by
  obtain ⟨l, o, h1, h2, h3⟩ := S.obj b _ hb (by simp)
  cases h3 with
  | loop hT =>
    rename_i f' D' tmps
    have hlt := (S.pos b l h1).2
    exact ⟨l, tmps, f', D', h1, hlt, hT, h2, S.turn hb (by simp) h1 (grownBy_put w l _) (heap_put hlt) (.loop hT)⟩

def setPs (T : Env) (l : List (Nat × AV)) : Env := l.foldl (fun T p => upd T p.1 p.2) T

theorem setPs_rel {n : Nat} : ∀ (ps : List Nat) (as : List AV) (us : List Value) (T : Env) (tmps : Array Value), ps.length = as.length → as.length = us.length → (∀ (i : Nat) (a : AV) (u : Value), as[i]? = some a → us[i]? = some u → R g a u) →
    (∀ p ∈ ps, p < n) → TRel g n T tmps → TRel g n (setPs T (ps.zip as)) ((ps.zip us).foldl (fun t (p, v) => t.setIfInBounds p v) tmps)
  | [], as, us, T, tmps, h1, h2, _, _, hT => by
    cases as with
    | nil => cases us with
      | nil => exact hT
      | cons _ _ => simp at h2
    | cons _ _ => simp at h1
  | p :: ps, as, us, T, tmps, h1, h2, hr, hp, hT => by
    cases as with
    | nil => simp at h1
    | cons a as =>
      cases us with
      | nil => simp at h2
      | cons u us =>
        refine setPs_rel ps as us _ _ (by simpa using h1) (by simpa using h2) (fun i a u ha hu => hr (i + 1) a u (by simpa using ha) (by simpa using hu)) (fun q hq => hp q (by simp [hq])) ?_
        have := TRel.put (a := { tmps, defers := [] }) (dst := some p) hT (by simpa [dstOk] using hp p (by simp)) (hr 0 a u rfl rfl)
        exact this

def roundQ (b : Nat) (H0 : Hp) (Post : AV → Hp → Prop) : Exit → Env → Hp → Prop := fun e _ H =>
  ∃ st pend f T n ps assign body D, H[b]? = some (.loop st pend f T n ps assign body D) ∧
    match e with
    | .normal => ∃ H2, Vs H0 (.val (.bool true)) (H.set b (.loop .ready none f T n ps assign body D)) (.val (.bool true)) H2 ∧ Post (.val (.bool true)) H2
    | .ret => ∃ H2, Vs H0 (.val (.bool false)) (H.set b (.loop .done (some .ret) f T n ps assign body D)) (.val (.bool false)) H2 ∧ Post (.val (.bool false)) H2
    | .exit id => ∃ H2, Vs H0 (.val (.bool false)) (H.set b (.loop .done (some (.exit id)) f T n ps assign body D)) (.val (.bool false)) H2 ∧ Post (.val (.bool false)) H2
    | .goto t => ∃ H2, Vs H0 (.val (.bool false)) (H.set b (.loop .done (some (.goto t)) f T n ps assign body D)) (.val (.bool false)) H2 ∧ Post (.val (.bool false)) H2
    | _ => False

/-- a round, out of the loop's body -/
theorem AYield.of_body {b : Nat} {pend : Option Code} {f : FuncId} {T : Env} {n : Nat} {ps : Array Tmp} {assign body : Code} {D : Nat} {args : List AV} {Post : AV → Hp → Prop}
    (hb : H[b]? = some (.loop .ready pend f T n ps assign body D)) (hl : args.length = ps.size) (hps : ∀ p ∈ ps.toList, p < n)
    (h : Awp P n (some b) assign (setPs T (ps.toList.zip args)) H (fun e T1 H1 => e = .normal ∧ ∃ pend f T n' ps assign body' D, H1[b]? = some (.loop .ready pend f T n' ps assign body' D) ∧
      Awp P n (some b) body T1 (H1.set b (.loop .busy pend f T n' ps assign body' D)) (roundQ b H Post))) : AYield P b args H Post := by
  intro base w0 g w vs l S hr hph
  obtain ⟨l', tmps, f', D', h1, h2, hT, h3, -⟩ := S.loop (st' := .ready) (pend' := none) hb
  rw [hph] at h1; cases h1
  have hsz := hr.size
  refine ⟨f', (ps.zip vs).foldl (fun tmps (t, a) => tmps.setIfInBounds t a) tmps, assign, body, ?_, roundIn_of_wpIn (F := Fence.wide) (n := 0) trivial ?_⟩
  · unfold Instr.yield
    rw [Sem.run_bind, run_getLoop h3]
    simp only [Result.andThen_ok]
    rw [if_neg (by omega)]
    rfl
  · have hT' : TRel g n (setPs T (ps.toList.zip args)) ((ps.zip vs).foldl (fun tmps (t, a) => tmps.setIfInBounds t a) tmps) := by
      have := setPs_rel (g := g) (n := n) ps.toList args vs.toList T tmps (by simpa using hl.symm) (by simpa using hsz) (fun i a u ha hu => hr.cell i a u ha (by simpa using hu)) hps hT
      rw [← Array.foldl_toList, Array.toList_zip]
      exact this
    refine wpIn_mono (h base w0 g w { tmps := _, defers := [] } (some l) S hT' hph) fun e a1 w1 ⟨T1, H1, g1, ds, ⟨he, pend1, f1, TT, n1, ps1, as1, bd1, D1, hb1, hbody⟩, k1, k2, k3, k4, k5⟩ => ?_
    subst he
    obtain ⟨l1, tmps1, f1', D1', m1, m2, m3, m4, m5⟩ := k2.loop (st' := .busy) (pend' := pend1) hb1
    have : l1 = l := by have := k1.ph b l hph; rw [m1] at this; cases this; rfl
    subst this
    refine ⟨_, ?_, wpIn_mono (hbody base w0 g1 _ a1 (some l1) m5 k3 m1) fun e2 a2 w2 ⟨T2, H2, g2, ds2, ⟨st2, pend2, f2, TT2, n2, ps2, as2, bd2, D2, hb2, hpost⟩, j1, j2, j3, j4, j5⟩ => ?_⟩
    · unfold Instr.beginRound
      rw [Sem.run_bind, run_getLoop m4]
      simp only [Result.andThen_ok, Sem.run_bind, run_setObj m4, Sem.run_pure]
    · have hbel : ∀ (c : Nat) (ob : AObj), H[c]? = some ob → ob ≠ .dead → BelO H.length ob := by
        intro c ob hc hn
        obtain ⟨x, o, _, _, h3⟩ := S.obj c ob hc hn
        exact h3.bel S.dom
      have fin : ∀ (jump : Option Code), (∀ t : Bool, t = jump.isNone → ∃ H3, Vs H (.val (.bool t)) (H2.set b (.loop (if jump.isNone then .ready else .done) jump f2 TT2 n2 ps2 as2 bd2 D2)) (.val (.bool t)) H3 ∧ Post (.val (.bool t)) H3) →
          ∃ v w', (Instr.endRound l1 jump).run P w2 = .ok v w' ∧ ∃ v' a H' g', Ending.returned v = .returned v' ∧ Post a H' ∧ g.le g' ∧ Sim base w0 g' H' w' ∧ R g' a v' := by
        intro jump hp
        obtain ⟨l2, tmps2, f2', D2', q1, q2, q3, q4, q5⟩ := j2.loop (st' := if jump.isNone then .ready else .done) (pend' := jump) hb2
        have : l2 = l1 := by have := j1.ph b l1 m1; rw [q1] at this; cases this; rfl
        subst this
        obtain ⟨H3, hv, hpost⟩ := hp _ rfl
        obtain ⟨g3, r1, r2, r3⟩ := hv base w0 g g2 _ (.bool jump.isNone) S.dom hbel (k1.trans j1) q5 (.val _)
        refine ⟨.bool jump.isNone, _, ?_, .bool jump.isNone, .val (.bool jump.isNone), H3, g3, rfl, hpost, r1, r2, r3⟩
        unfold Instr.endRound
        rw [Sem.run_bind, run_getLoop q4]
        simp only [Result.andThen_ok, Sem.run_bind, run_setObj q4, Sem.run_pure]
      cases e2 with
      | normal => exact fin none (fun t ht => by subst ht; exact hpost)
      | ret => exact fin (some .ret) (fun t ht => by subst ht; exact hpost)
      | exit id => exact fin (some (.exit id)) (fun t ht => by subst ht; exact hpost)
      | goto t => exact fin (some (.goto t)) (fun t ht => by subst ht; exact hpost)
      | panic c => exact hpost
      | outgrown => exact hpost

def rangeQ (P : Program) (n : Nat) (rd : Option Nat) (T : Env) (b : Nat) (Q : Exit → Env → Hp → Prop) : AV → Hp → Prop := fun _ H2 =>
  ∃ st pend f T' n' ps assign body D, H2[b]? = some (.loop st pend f T' n' ps assign body D) ∧ st ≠ .busy ∧
    match pend with
    | none => Q .normal T (H2.set b .dead)
    | some c => Awp P n rd c T (H2.set b .dead) Q

theorem range_core {n : Nat} {rd : Option Nat} {T : Env} {Q : Exit → Env → Hp → Prop} {gop : Operand} {ps : Array Tmp} {assign body : Code} {H : Hp} {a : Act} {g g1 : Gh} {w1 : World} {r : Option Nat} {l D : Nat} {mark : List Deferred} {f : FuncId}
    (hg : g.le g1) (S : Sim base w0 g1 (H ++ [.loop .ready none f T n ps assign body D]) w1) (hT : TRel g n T a.tmps) (hr : rdOk g rd r) (hl : g1.ph H.length = some l) (hm : Marks g g1 mark)
    {k : FuncId} {cap : List AV} (e : evA T gop = .fn (.func k) cap) (h : ACalls P k ([.fn (.yield H.length) []] ++ cap) (H ++ [.loop .ready none f T n ps assign body D]) (rangeQ P n rd T H.length Q)) :
    ∃ (d : Deferred) (w₁' : World) (f : FuncId) (args : Array Value) (w₂ : World),
      (resolve a.eval (rangeCall gop l) 0).run P w1 = .ok d w₁' ∧ (∀ f', Target.leads P w₁' d.target d.args = some f' → (FR r).fn f') ∧
      (invoke d.target d.args).run P w₁' = .ok (.enter f args) w₂ ∧ ((FR r).depth.isSome = true → 1 ≤ 0) ∧
      CallsIn (FR r) (0 - 1) P f args w₂ (rangePost (FR r) 0 P l (fun e a' w' => ∃ T' H' g' ds, Q e T' H' ∧ g.le g' ∧ Sim base w0 g' H' w' ∧ TRel g' n T' a'.tmps ∧ a'.defers = ds ++ a.defers ∧ Marks g g' ds) { a with defers := mark ++ a.defers }) := by
  have hf := evA_rel hT gop
  rw [e] at hf
  generalize hfv : a.eval gop = fv at hf
  cases hf with
  | fn hy hcl hcr =>
    rename_i vs
    obtain ⟨hc1, hc2⟩ := h
    have hyl : R g1 (.fn (.yield H.length) []) (.func (.yield l) #[] #[]) := .yld hl
    have hargs : RCells g1 ([.fn (.yield H.length) []] ++ cap) (#[.func (.yield l) #[] #[]] ++ vs) := (RCells.one hyl).append ((RCells.mk hcl hcr).mono hg)
    have hcall := hc2 base w0 g1 w1 _ S hargs
    refine ⟨{ target := .fn (.func k) vs, args := #[.func (.yield l) #[] #[]] }, w1, k, #[.func (.yield l) #[] #[]] ++ vs, w1, ?_, fun _ _ => trivial, ?_, fun h => by simp [FR, Fence.wide] at h, ?_⟩
    · have ha : (rangeCall gop l).args.map a.eval = #[.func (.yield l) #[] #[]] := by simp [Act.eval]
      show (Deferred.ofValue (a.eval gop) ((rangeCall gop l).args.map a.eval)).run P w1 = _
      rw [hfv, ha]; rfl
    · unfold callable at hc1
      split at hc1
      · rename_i fn hfn
        simp only [Bool.and_eq_true, Bool.not_eq_true'] at hc1
        have hb : fn.body ≠ none := by intro hb; simp [hb] at hc1
        have hne : fn.name ≠ "runtime.NumGoroutine" := by simpa using hc1.2
        simp [invoke, callFunc, hfn, hne, hb]
      · cases hc1
    · refine (CallsIn.mono hcall fun e w3 ⟨v, a3, H3, g3, h1, h2, h3, h4, h5⟩ => ?_ : CallsIn Fence.wide 0 P k (#[.func (.yield l) #[] #[]] ++ vs) w1 _)
      subst h1
      obtain ⟨st, pend, f', T', n', ps', as', bd', D', hb, hst, hpost⟩ := h2
      obtain ⟨l3, tmps3, f3', D3', m1, m2, m3, m4, m5⟩ := h4.loop (st' := .exhausted) (pend' := pend) hb
      have : l3 = l := by have := h3.ph _ l hl; rw [m1] at this; cases this; rfl
      subst this
      have S4 := m5.dead H.length
      rw [List.set_set] at S4
      have S40 := S4; clear S4
      have hgg : g.le g3 := hg.trans h3
      have hmm : Marks g g3 mark := by simpa using hm.append (Marks.nil g1 g3) hg h3
      obtain ⟨w4, hend, S4⟩ : ∃ w4, (Instr.endLoop l3).run P w3 = .ok pend w4 ∧ Sim base w0 g3 (H3.set H.length .dead) w4 := by
        refine ⟨_, ?_, S40⟩
        unfold Instr.endLoop
        rw [Sem.run_bind, run_getLoop m4]
        simp only [Result.andThen_ok]
        rw [if_neg (by cases st <;> first | exact absurd rfl hst | simp)]
        simp only [Sem.run_bind, run_setObj m4, Result.andThen_ok, Sem.run_pure]
      refine ⟨pend, w4, hend, ?_⟩
      cases pend with
      | none => exact ⟨T, _, g3, mark, hpost, hgg, S4, hT.mono hgg, rfl, hmm⟩
      | some c =>
          refine wpIn_mono (hpost base w0 g3 _ { a with defers := mark ++ a.defers } r S4 (hT.mono hgg) (hr.mono hgg)) fun e a4 w4 ⟨T4, H4, g4, ds4, k1, k2, k3, k4, k5, k6⟩ => ?_
          exact ⟨T4, H4, g4, ds4 ++ mark, k1, hgg.trans k2, k3, k4, by rw [k5]; simp, hmm.append k6 hgg k2⟩

/-- for .. := range gop { body }, in no loop over a function -/
theorem Awp.range {n : Nat} {T : Env} {Q : Exit → Env → Hp → Prop} {gop : Operand} {ps : Array Tmp} {assign body : Code} {k : FuncId} {cap : List AV} (e : evA T gop = .fn (.func k) cap)
    (h : ∀ f D, ACalls P k ([.fn (.yield H.length) []] ++ cap) (H ++ [.loop .ready none f T n ps assign body D]) (rangeQ P n none T H.length Q)) : Awp P n none (.rangeFunc gop ps assign body) T H Q := by
  intro base w0 g w a r S hT hr
  cases r with
  | some l => exact hr.elim
  | none =>
    refine wpIn_rangeFunc fun fn hfn => ?_
    have S1 := S.allocMk
    have hle1 : g.le (g.mkAdd w.heap.size) := Sim.mkAdd_le _
    have hle2 : (g.mkAdd w.heap.size).le ((g.mkAdd w.heap.size).phAdd H.length (w.alloc (.deferred (some []))).heap.size 0 0) := Gh.phAdd_le S1.fresh
    have hT1 := hT.mono (hle1.trans hle2)
    have S2 := S1.alloc (k := 0) (c := 0) (ob := .loop .ready none fn T n ps assign body w.heap.size) (World.grownBy_alloc _ (.loop { state := .ready, pending := none, fn, tmps := a.tmps, params := ps, assign, body, defers := w.heap.size }) none) (heap_alloc_new _ _) (.loop hT1)
    obtain ⟨d, w1, f, args, w2, h1, h2, h3, h4, h5⟩ := range_core (P := P) (gop := gop) (mark := [⟨.collected w.heap.size, #[]⟩]) (hle1.trans hle2) S2 hT hr (by simp [Gh.phAdd]; rfl) ⟨by
      intro d hd
      simp only [List.mem_singleton] at hd
      subst hd
      exact ⟨_, rfl, .inl rfl, fun hm => absurd (S.marks _ hm).2.1 (Nat.lt_irrefl _)⟩, by simp⟩ e (h fn w.heap.size)
    refine ⟨_, _, _, d, w1, f, args, w2, ?_, h1, h2, h3, h4, h5⟩
    simp [Instr.enterLoop, FR, Sem.run_bind]

/-- the same within a round of the loop b0 -/
theorem Awp.rangeIn {n b0 : Nat} {T : Env} {Q : Exit → Env → Hp → Prop} {gop : Operand} {ps : Array Tmp} {assign body : Code} {k : FuncId} {cap : List AV} (e : evA T gop = .fn (.func k) cap)
    {st : LoopState} {pend : Option Code} {f0 : FuncId} {T0 : Env} {n0 : Nat} {ps0 : Array Tmp} {assign0 body0 : Code} {D0 : Nat} (hb0 : H[b0]? = some (.loop st pend f0 T0 n0 ps0 assign0 body0 D0))
    (h : ∀ f D, ACalls P k ([.fn (.yield H.length) []] ++ cap) (H ++ [.loop .ready none f T n ps assign body D]) (rangeQ P n (some b0) T H.length Q)) : Awp P n (some b0) (.rangeFunc gop ps assign body) T H Q := by
  intro base w0 g w a r S hT hr
  cases r with
  | none => exact hr.elim
  | some l0 =>
    refine wpIn_rangeFunc fun fn hfn => ?_
    obtain ⟨l', tmps0, f0', D0', m1, m2, m3, m4, _⟩ := S.loop (st' := .ready) (pend' := none) hb0
    have : l' = l0 := by have hr' : g.ph b0 = some l0 := hr; rw [m1] at hr'; cases hr'; rfl
    subst this
    have hle2 : g.le (g.phAdd H.length w.heap.size 0 0) := Gh.phAdd_le S.fresh
    have hT1 := hT.mono hle2
    have S2 := S.alloc (k := 0) (c := 0) (ob := .loop .ready none fn T n ps assign body D0') (World.grownBy_alloc _ (.loop { state := .ready, pending := none, fn, tmps := a.tmps, params := ps, assign, body, defers := D0' }) none) (heap_alloc_new _ _) (.loop hT1)
    obtain ⟨d, w1, f, args, w2, h1, h2, h3, h4, h5⟩ := range_core (P := P) (gop := gop) (mark := []) hle2 S2 hT hr (by simp [Gh.phAdd]; rfl) (Marks.nil _ _) e (h fn D0')
    refine ⟨_, _, _, d, w1, f, args, w2, ?_, h1, h2, h3, h4, h5⟩
    simp [Instr.enterLoop, FR, Sem.run_bind, run_getLoop m4]

end Go.Proofs.Ytdmgljlabigljaa.Ab
