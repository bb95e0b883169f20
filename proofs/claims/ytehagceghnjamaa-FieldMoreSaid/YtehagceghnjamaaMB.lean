/- Calls, and regions of operations in the order of the text. Awp: an abstract weakest precondition of code, its rules, and a function's contract out of its body. Regions that draw their order of evaluation: the order does not matter. Regions that draw their order of evaluation: whatever the order, it comes to what the order of the text comes to. Regions that draw their order of evaluation: the theorem, and its rule for code. A function's contract out of its body; results that never turn again. Ranges over functions: the statement, and a round. Small steps for walks: one operation, a test, a call, the end of a region; what a program's types come to. More small steps: a block that never turns again, a body that hands back a new block. A heap told otherwise: a block that moves to the end of what is kept, a row within an object that never turns again. Panics: calls that end in one, regions in which one begins, functions that defer a call. Regions that draw their order, of which two operations turn the heap in no order: p and p + 1. -/
import Derived.Test.YtehagceghnjamaaMA
import Derived.RangeFuncRecord
import Derived.OrdersIn
import Derived.RecoverIn
namespace Go.Proofs.Ytehagceghnjamaa.Ab
open Go Go.RowKit

variable {base : Nat} {w0 w w' : World} {g : Gh} {H : Hp} {P : Program}

/-- all functions, no depth; in the round of the loop r -/
def FR (r : Option Nat) : Fence := { Fence.wide with round := r }

def callable (P : Program) (k : FuncId) : Bool :=
  match P.funcs[k]? with
  | some fn => fn.body.isSome && !(fn.name == "runtime.NumGoroutine")
  | none => false

/-- a call of function f comes to a value and a heap of which Post holds -/
def ACalls (P : Program) (f : FuncId) (args : List AV) (H : Hp) (Post : AV → Hp → Prop) : Prop :=
  callable P f = true ∧ ∀ (base : Nat) (w0 : World) (g : Gh) (w : World) (vs : Array Value), Sim base w0 g H w → RCells g args vs →
    CallsIn Fence.wide 0 P f vs w fun e w' => ∃ v a H' g', e = .returned v ∧ Post a H' ∧ g.le g' ∧ Sim base w0 g' H' w' ∧ R g' a v

/-- a call of the yield of the loop b -/
def AYield (P : Program) (b : Nat) (args : List AV) (H : Hp) (Post : AV → Hp → Prop) : Prop :=
  ∀ (base : Nat) (w0 : World) (g : Gh) (w : World) (vs : Array Value) (l : Nat), Sim base w0 g H w → RCells g args vs → g.ph b = some l →
    ∃ fn tmps assign body, (Instr.yield l vs).run P w = .ok (.round l fn tmps assign body) w ∧
      RoundIn Fence.wide 0 P l fn tmps assign body w fun e w' => ∃ v a H' g', e = .returned v ∧ Post a H' ∧ g.le g' ∧ Sim base w0 g' H' w' ∧ R g' a v

def ACallV (P : Program) (fv : AV) (args : List AV) (H : Hp) (Post : AV → Hp → Prop) : Prop :=
  match fv with
  | .fn (.func k) cap => ACalls P k (args ++ cap) H Post
  | .mth k pre => ACalls P k (pre ++ args) H Post
  | .fn (.yield b) [] => AYield P b args H Post
  | _ => False

theorem ACalls.mono {f : FuncId} {args : List AV} {Post Post' : AV → Hp → Prop} (h : ACalls P f args H Post) (hp : ∀ a H', Post a H' → Post' a H') : ACalls P f args H Post' :=
  ⟨h.1, fun base w0 g w vs S hr => (h.2 base w0 g w vs S hr).mono fun _ _ ⟨v, a, H', g', h1, h2, h3⟩ => ⟨v, a, H', g', h1, hp a H' h2, h3⟩⟩

theorem AYield.mono {b : Nat} {args : List AV} {Post Post' : AV → Hp → Prop} (h : AYield P b args H Post) (hp : ∀ a H', Post a H' → Post' a H') : AYield P b args H Post' :=
  fun base w0 g w vs l S hr hl => by
    obtain ⟨fn, tmps, assign, body, h1, h2⟩ := h base w0 g w vs l S hr hl
    exact ⟨fn, tmps, assign, body, h1, h2.mono fun _ _ ⟨v, a, H', g', k1, k2, k3⟩ => ⟨v, a, H', g', k1, hp a H' k2, k3⟩⟩

theorem ACallV.mono {fv : AV} {args : List AV} {Post Post' : AV → Hp → Prop} (h : ACallV P fv args H Post) (hp : ∀ a H', Post a H' → Post' a H') : ACallV P fv args H Post' := by
  unfold ACallV at h ⊢
  split at h
  · exact ACalls.mono h hp
  · exact ACalls.mono h hp
  · exact AYield.mono h hp
  · exact h.elim

theorem RCells.append {cs ds : List AV} {vs us : Array Value} (h : RCells g cs vs) (k : RCells g ds us) : RCells g (cs ++ ds) (vs ++ us) := by
  have h1 := h.size
  have h2 := k.size
  refine ⟨by simp [h1, h2], fun i c v hc hv => ?_⟩
  rw [List.getElem?_append] at hc
  rw [Array.getElem?_append] at hv
  by_cases hi : i < cs.length
  · rw [if_pos hi] at hc
    rw [if_pos (by omega)] at hv
    exact h.cell i c v hc hv
  · rw [if_neg hi] at hc
    rw [if_neg (by omega), ← h1] at hv
    exact k.cell _ c v hc hv

def callOf (o : Oper) : Option (Operand × Array Operand) :=
  match o.op with
  | .call ⟨.value f, args, _⟩ => some (f, args)
  | _ => none

theorem callOf_eq {o : Oper} {f : Operand} {args : Array Operand} (h : callOf o = some (f, args)) : ∃ aT, o.op = .call ⟨.value f, args, aT⟩ := by
  unfold callOf at h
  split at h
  · rename_i f' args' aT e
    cases h
    exact ⟨aT, e⟩
  · cases h

/-- the machine's word for one operation: it ends in a value of which k holds -/
def OpOK (P : Program) (o : Oper) (T : Env) (H : Hp) (k : AV → Hp → Prop) : Prop :=
  ∀ (base : Nat) (w0 : World) (g : Gh) (w : World) (a : Act) (r : Option Nat), Sim base w0 g H w → (∀ x ∈ o.op.operands, R g (evA T x) (a.eval x)) →
    ∀ (next : Act → World → Prop) (Q : Exit → Act → World → Prop),
      (∀ v z H' g' w', k v H' → g.le g' → Sim base w0 g' H' w' → R g' v z → next (a.put o.dst z) w') → o.wpIn (FR r) 0 P a w next Q

theorem OpOK.call {o : Oper} {f : Operand} {args : Array Operand} {T : Env} {k : AV → Hp → Prop} (ho : callOf o = some (f, args)) (h : ACallV P (evA T f) (args.toList.map (evA T)) H k) : OpOK P o T H k := by
  obtain ⟨aT, ho⟩ := callOf_eq ho
  intro base w0 g w a r S hr next Q hn
  have hf := hr f (by simp [ho, Op.operands, Call.operands])
  obtain ⟨hl, hp⟩ := list_rel (g := g) (T := T) (a := a) args (fun x hx => hr x (by simp [ho, Op.operands, Call.operands, hx]))
  have hargs : RCells g (args.toList.map (evA T)) (args.map a.eval) := ⟨hl, hp⟩
  have hex : o.semAt (FR r).round a.eval = execOp a.eval o := Oper.semAt_eq _ _ _ (by intro c hc; rw [ho] at hc; cases hc)
  refine ⟨fun _ _ => trivial, ?_⟩
  rw [hex]
  unfold ACallV at h
  split at h
  · rename_i k' cap e
    rw [e] at hf
    generalize hfv : a.eval f = fv at hf
    cases hf with
    | fn hy hcl hcr =>
      rename_i vs
      obtain ⟨hc1, hc2⟩ := h
      have hcall := hc2 base w0 g w (args.map a.eval ++ vs) S (hargs.append ⟨hcl, hcr⟩)
      have hrun : (execOp a.eval o).run P w = .ok (.enter k' (args.map a.eval ++ vs)) w := by
        unfold callable at hc1
        split at hc1
        · rename_i fn hfn
          simp only [Bool.and_eq_true, Bool.not_eq_true'] at hc1
          have hb : fn.body ≠ none := by intro hb; simp [hb] at hc1
          have hne : fn.name ≠ "runtime.NumGoroutine" := by simpa using hc1.2
          simp [execOp, ho, resolve, Deferred.ofValue, hfv, invoke, callFunc, hfn, hne, hb]
        · cases hc1
      rw [hrun, Oper.uponIn_enter]
      refine ⟨fun h => by simp [FR, Fence.wide] at h, ?_⟩
      refine (CallsIn.mono hcall fun e w' ⟨v, a', H', g', h1, h2, h3, h4, h5⟩ => ?_ : CallsIn Fence.wide 0 P k' (args.map a.eval ++ vs) w _)
      subst h1
      exact hn a' v H' g' w' h2 h3 h4 h5
  · rename_i k' pre e
    rw [e] at hf
    generalize hfv : a.eval f = fv at hf
    cases hf with
    | mth hcl hcr =>
      rename_i vs
      obtain ⟨hc1, hc2⟩ := h
      have hcall := hc2 base w0 g w (vs ++ args.map a.eval) S (RCells.append ⟨hcl, hcr⟩ hargs)
      have hrun : (execOp a.eval o).run P w = .ok (.enter k' (vs ++ args.map a.eval)) w := by
        unfold callable at hc1
        split at hc1
        · rename_i fn hfn
          simp only [Bool.and_eq_true, Bool.not_eq_true'] at hc1
          have hb : fn.body ≠ none := by intro hb; simp [hb] at hc1
          have hne : fn.name ≠ "runtime.NumGoroutine" := by simpa using hc1.2
          simp [execOp, ho, resolve, Deferred.ofValue, hfv, invoke, callFunc, hfn, hne, hb]
        · cases hc1
      rw [hrun, Oper.uponIn_enter]
      refine ⟨fun h => by simp [FR, Fence.wide] at h, ?_⟩
      refine (CallsIn.mono hcall fun e w' ⟨v, a', H', g', h1, h2, h3, h4, h5⟩ => ?_ : CallsIn Fence.wide 0 P k' (vs ++ args.map a.eval) w _)
      subst h1
      exact hn a' v H' g' w' h2 h3 h4 h5
  · rename_i b e
    rw [e] at hf
    generalize hfv : a.eval f = fv at hf
    cases hf with
    | fn hy _ _ => exact absurd rfl (hy b)
    | yld hb =>
      rename_i l
      obtain ⟨fn, tmps, assign, body, h1, h2⟩ := h base w0 g w (args.map a.eval) l S hargs hb
      have hrun : (execOp a.eval o).run P w = .ok (.round l fn tmps assign body) w := by
        simp [execOp, ho, resolve, Deferred.ofValue, hfv, invoke, h1]
      rw [hrun, Oper.uponIn_round]
      refine ⟨fun h => by simp [FR, Fence.wide] at h, ?_⟩
      refine (RoundIn.mono h2 fun e w' ⟨v, a', H', g', k1, k2, k3, k4, k5⟩ => ?_ : RoundIn Fence.wide 0 P l fn tmps assign body w _)
      subst k1
      exact hn a' v H' g' w' k2 k3 k4 k5
  · exact h.elim

theorem OpOK.step {mu : Nat → Bool} {o : Oper} {T : Env} {k : AV → Hp → Prop} {v : AV} {H' : Hp} (h : stepA P mu o T H = some (v, H')) (hk : k v H') : OpOK P o T H k := by
  intro base w0 g w a r S hr next Q hn
  obtain ⟨z, g', w', hrun, h1, h2, h3⟩ := stepA_sound S h hr
  have hnd : ∀ c, o.op ≠ .defer c := by
    intro c hc
    simp [stepA, hc] at h
  have hex : o.semAt (FR r).round a.eval = execOp a.eval o := Oper.semAt_eq _ _ _ hnd
  refine ⟨fun _ _ => trivial, ?_⟩
  rw [hex]
  rcases hrun with hrun | ⟨hrun, rfl⟩
  · rw [hrun]; exact hn v z H' g' w' hk h1 h2 h3
  · rw [hrun]; exact hn v undef H' g' w' hk h1 h2 h3

/-! ### the operations of a region -/

def upd (T : Env) (d : Nat) (v : AV) : Env := fun s => if s = d then v else T s

def putA (T : Env) : Option Tmp → AV → Env
  | none, _ => T
  | some d, v => upd T d v

def dstOk (n : Nat) : Option Tmp → Bool
  | none => true
  | some d => decide (d < n)

theorem TRel.put {n : Nat} {T : Env} {a : Act} {dst : Option Tmp} {v : AV} {z : Value} (h : TRel g n T a.tmps) (hd : dstOk n dst = true) (hv : R g v z) : TRel g n (putA T dst v) (a.put dst z).tmps := by
  cases dst with
  | none => exact h
  | some d =>
    have hd' : d < n := by simpa [dstOk] using hd
    have hlt : d < a.tmps.size := by rw [h.size]; exact hd'
    refine ⟨by simp [Act.put, h.size], fun t => ?_⟩
    simp only [putA, upd, Act.put, Array.getD_eq_getD_getElem?, Array.getElem?_setIfInBounds]
    by_cases e : t = d
    · subst e
      rw [if_pos rfl, if_pos rfl, if_pos hlt]
      exact hv
    · rw [if_neg e, if_neg (fun h => e h.symm)]
      have := h.slot t
      rwa [Array.getD_eq_getD_getElem?] at this

/-- is the operation wanted? -/
def guardA (done : List (Option Tmp)) (gd : Option (Nat × Bool)) (T : Env) : Option Bool :=
  match gd with
  | none => some true
  | some (j, want) => match done[j]? with
    | some (some s) => match T s with
      | .val (.bool t) => some (t == want)
      | .val _ => some false
      | _ => none
    | _ => none

theorem guardA_wanted {n : Nat} {ops : List Oper} {done : List (Option Tmp)} {o : Oper} {rest : List Oper} {T : Env} {a : Act} {b : Bool} (hT : TRel g n T a.tmps)
    (hops : ops.map (·.dst) = done ++ (o :: rest).map (·.dst)) (hn : ∀ d ∈ done, dstOk n d = true) (h : guardA done o.guard T = some b) : Region.wanted o (yielded ops.toArray a.tmps) = b := by
  unfold guardA at h
  unfold Region.wanted
  split at h
  · rename_i e
    rw [e]
    cases h
    rfl
  · rename_i j want e
    rw [e]
    split at h
    · rename_i s hs
      have hj : j < done.length := (List.getElem?_eq_some_iff.1 hs).1
      have hdst : (ops.toArray[j]?).bind (·.dst) = some s := by
        have : (ops.map (·.dst))[j]? = some (some s) := by rw [hops, List.getElem?_append_left hj]; exact hs
        rw [List.getElem?_map, Option.map_eq_some_iff] at this
        obtain ⟨x, hx, hd⟩ := this
        simp [hx, hd]
      have hsn : s < n := by
        have := hn (some s) (List.mem_of_getElem? hs)
        simpa [dstOk] using this
      have hlt : s < a.tmps.size := by rw [hT.size]; exact hsn
      have hslot := hT.slot s
      rw [Array.getD_eq_getD_getElem?] at hslot
      obtain ⟨x, hx⟩ : ∃ x, a.tmps[s]? = some x := ⟨_, Array.getElem?_eq_getElem hlt⟩
      rw [hx, Option.getD_some] at hslot
      simp only [yielded, hdst, Option.bind_some, hx]
      split at h
      · rename_i t et
        rw [et] at hslot
        cases hslot
        cases h
        simp
      · rename_i v hnb ev
        rw [ev] at hslot
        cases hslot
        cases h
        cases x <;> first | rfl | exact absurd rfl (hnb _ )
      · cases h
    · cases h

/-- what an operation comes to -/
def PerfTo (P : Program) (mu : Nat → Bool) (o : Oper) (T : Env) (H : Hp) (v : AV) (H' : Hp) : Prop :=
  match callOf o with
  | some (f, args) => ACallV P (evA T f) (args.toList.map (evA T)) H fun v1 H1 => v1 = v ∧ H1 = H'
  | none => stepA P mu o T H = some (v, H')

theorem PerfTo.ok {mu : Nat → Bool} {o : Oper} {T : Env} {v : AV} {H' : Hp} (h : PerfTo P mu o T H v H') : OpOK P o T H fun v1 H1 => v1 = v ∧ H1 = H' := by
  unfold PerfTo at h
  split at h
  · rename_i f args e; exact OpOK.call e h
  · exact OpOK.step h ⟨rfl, rfl⟩

/-- a region that draws its order: which operations may turn the heap; which look at blocks alone that no operation turns, and so may stand anywhere; these blocks -/
structure Draw where
  ev : Nat → Bool
  rf : Nat → Bool
  keep : Nat → Bool

def Draw.of (ev : Nat → Bool) : Draw := ⟨ev, fun _ => false, fun _ => false⟩
def Draw.agree (W : Draw) (H H2 : Hp) : Prop := ∀ b, W.keep b = true → H2[b]? = H[b]?

theorem Draw.agree.refl (W : Draw) (H : Hp) : W.agree H H := fun _ _ => rfl
theorem Draw.agree.symm {W : Draw} {H H2 : Hp} (h : W.agree H H2) : W.agree H2 H := fun b hb => (h b hb).symm
theorem Draw.agree.trans {W : Draw} {H H2 H3 : Hp} (h : W.agree H H2) (k : W.agree H2 H3) : W.agree H H3 := fun b hb => (k b hb).trans (h b hb)

def okD (P : Program) (mu : Nat → Bool) (d : Option Draw) (i : Nat) (o : Oper) (T : Env) (H : Hp) (v : AV) (H' : Hp) : Prop :=
  match d with
  | none => True
  | some W => (W.ev i = false → H' = H) ∧ W.agree H H' ∧ (W.rf i = true → ∀ H2, W.agree H H2 → PerfTo P mu o T H2 v H2)

def Perf (P : Program) (mu : Nat → Bool) (d : Option Draw) (i : Nat) (o : Oper) (T : Env) (H : Hp) (k : AV → Hp → Prop) : Prop :=
  match d with
  | none => match callOf o with
    | some (f, args) => ACallV P (evA T f) (args.toList.map (evA T)) H k
    | none => ∃ v H', stepA P mu o T H = some (v, H') ∧ k v H'
  | some W => ∃ v H', PerfTo P mu o T H v H' ∧ okD P mu (some W) i o T H v H' ∧ k v H'

theorem Perf.mono {mu : Nat → Bool} {d : Option Draw} {i : Nat} {o : Oper} {T : Env} {k k' : AV → Hp → Prop} (h : Perf P mu d i o T H k) (hk : ∀ v H', k v H' → k' v H') : Perf P mu d i o T H k' := by
  unfold Perf at h ⊢
  split
  · simp only at h
    split
    · rename_i f args e
      rw [e] at h
      exact ACallV.mono h hk
    · rename_i e
      rw [e] at h
      obtain ⟨v, H', h1, h2⟩ := h
      exact ⟨v, H', h1, hk _ _ h2⟩
  · obtain ⟨v, H', h1, h2, h3⟩ := h
    exact ⟨v, H', h1, h2, hk _ _ h3⟩

theorem Perf.of {mu : Nat → Bool} {d : Option Draw} {i : Nat} {o : Oper} {T : Env} {k : AV → Hp → Prop} {v : AV} {H' : Hp} (h : PerfTo P mu o T H v H') (ho : okD P mu d i o T H v H') (hk : k v H') : Perf P mu d i o T H k := by
  cases d with
  | some W => exact ⟨v, H', h, ho, hk⟩
  | none =>
    unfold PerfTo at h
    unfold Perf
    simp only
    split
    · rename_i f args e
      rw [e] at h
      exact ACallV.mono h fun a H1 ⟨e1, e2⟩ => by subst e1; subst e2; exact hk
    · rename_i e
      rw [e] at h
      exact ⟨v, H', h, hk⟩

theorem Perf.ok {mu : Nat → Bool} {d : Option Draw} {i : Nat} {o : Oper} {T : Env} {k : AV → Hp → Prop} (h : Perf P mu d i o T H k) : OpOK P o T H k := by
  unfold Perf at h
  split at h
  · split at h
    · rename_i f args e
      exact OpOK.call e h
    · obtain ⟨v, H', h1, h2⟩ := h
      exact OpOK.step h1 h2
  · obtain ⟨v, H', h1, _, h2⟩ := h
    intro base w0 g w a r S hr next Q hn
    exact h1.ok base w0 g w a r S hr next Q fun v1 z H1 g' w' ⟨e1, e2⟩ hg S' hR => by subst e1; subst e2; exact hn _ z _ g' w' h2 hg S' hR

def wpO (P : Program) (mu : Nat → Bool) (n : Nat) (d : Option Draw) : List (Option Tmp) → List Oper → Env → Hp → (Env → Hp → Prop) → Prop
  | _, [], T, H, K => K T H
  | done, o :: rest, T, H, K => dstOk n o.dst = true ∧ ∃ b, guardA done o.guard T = some b ∧
      (b = true → Perf P mu d done.length o T H fun v H' => wpO P mu n d (done ++ [o.dst]) rest (putA T o.dst v) H' K) ∧
      (b = false → wpO P mu n d (done ++ [o.dst]) rest (putA T o.dst (.val undef)) H K)

theorem wpO_sound {mu : Nat → Bool} {n : Nat} {d : Option Draw} {ops : List Oper} {r : Option Nat} {Q : Exit → Act → World → Prop} {base : Nat} {w0 : World} {ds : List Deferred} {g0 : Gh} {K : Env → Hp → Prop}
    (hQ : ∀ T H g w a, K T H → g0.le g → Sim base w0 g H w → TRel g n T a.tmps → a.defers = ds → Q .normal a w) :
    ∀ (l : List Oper) (done : List (Option Tmp)) (T : Env) (H : Hp) (g : Gh) (w : World) (a : Act), ops.map (·.dst) = done ++ l.map (·.dst) → (∀ d ∈ done, dstOk n d = true) → g0.le g → Sim base w0 g H w →
      TRel g n T a.tmps → a.defers = ds → wpO P mu n d done l T H K → wpListIn (FR r) 0 P ops.toArray Q l a w
  | [], done, T, H, g, w, a, _, _, hg, S, hT, hd, h => hQ T H g w a h hg S hT hd
  | o :: rest, done, T, H, g, w, a, hops, hn, hg, S, hT, hd, h => by
    obtain ⟨hdst, b, hb, h1, h2⟩ := h
    have hw := guardA_wanted hT hops hn hb
    have hops' : ops.map (·.dst) = (done ++ [o.dst]) ++ rest.map (·.dst) := by rw [hops]; simp
    have hn' : ∀ d ∈ done ++ [o.dst], dstOk n d = true := by
      intro d hd'
      rcases List.mem_append.1 hd' with h | h
      · exact hn d h
      · simp at h; subst h; exact hdst
    have hput : ∀ z, (a.put o.dst z).defers = a.defers := by intro z; cases o.dst <;> rfl
    unfold wpListIn
    cases b with
    | true =>
      rw [if_pos hw]
      refine (h1 rfl).ok base w0 g w a r S (fun x _ => evA_rel hT x) _ _ (fun v z H' g' w' hk hg' S' hR => ?_)
      exact wpO_sound hQ rest _ _ H' g' w' _ hops' hn' (hg.trans hg') S' ((hT.mono hg').put hdst hR) (by rw [hput]; exact hd) hk
    | false =>
      rw [if_neg (by rw [hw]; simp)]
      refine ⟨fun _ _ => trivial, ?_⟩
      exact wpO_sound hQ rest _ _ H g w _ hops' hn' hg S (hT.put hdst (.val _)) (by rw [hput]; exact hd) (h2 rfl)

end Go.Proofs.Ytehagceghnjamaa.Ab
namespace Go.Proofs.Ytehagceghnjamaa.Ab
open Go Go.RowKit

variable {base : Nat} {w0 w w' : World} {g : Gh} {H : Hp} {P : Program}

def rdOk (g : Gh) : Option Nat → Option Nat → Prop
  | none, none => True
  | some b, some l => g.ph b = some l
  | _, _ => False

theorem rdOk.mono {g g' : Gh} (hg : g.le g') {rd r : Option Nat} (h : rdOk g rd r) : rdOk g' rd r := by
  cases rd <;> cases r <;> first | exact h | exact hg.ph _ _ h

/-- the marks that loops over functions have left among the deferred calls -/
structure Marks (g g' : Gh) (ds : List Deferred) : Prop where
  mark : ∀ d ∈ ds, ∃ r, d = ⟨.collected r, #[]⟩ ∧ g'.mr r ∧ ¬ g.mr r
  nodup : ds.Pairwise fun d e => d.target ≠ e.target ∨ d.args ≠ e.args

theorem Marks.nil (g g' : Gh) : Marks g g' [] := ⟨by simp, .nil⟩

theorem Marks.append {g g1 g2 : Gh} {ds es : List Deferred} (h : Marks g g1 ds) (k : Marks g1 g2 es) (h1 : g.le g1) (h2 : g1.le g2) : Marks g g2 (es ++ ds) := by
  refine ⟨fun d hd => ?_, ?_⟩
  · rcases List.mem_append.1 hd with hd | hd
    · obtain ⟨r, e, a, b⟩ := k.mark d hd
      exact ⟨r, e, a, fun c => b (h1.mr r c)⟩
    · obtain ⟨r, e, a, b⟩ := h.mark d hd
      exact ⟨r, e, h2.mr r a, b⟩
  · rw [List.pairwise_append]
    refine ⟨k.nodup, h.nodup, fun d hd e he => ?_⟩
    obtain ⟨r, rfl, a, b⟩ := k.mark d hd
    obtain ⟨s, rfl, c, d'⟩ := h.mark e he
    refine .inl fun x => ?_
    cases x
    exact b c

def Awp (P : Program) (n : Nat) (rd : Option Nat) (c : Code) (T : Env) (H : Hp) (Q : Exit → Env → Hp → Prop) : Prop :=
  ∀ (base : Nat) (w0 : World) (g : Gh) (w : World) (a : Act) (r : Option Nat), Sim base w0 g H w → TRel g n T a.tmps → rdOk g rd r →
    c.wpIn (FR r) 0 P (fun e a' w' => ∃ T' H' g' ds, Q e T' H' ∧ g.le g' ∧ Sim base w0 g' H' w' ∧ TRel g' n T' a'.tmps ∧ a'.defers = ds ++ a.defers ∧ Marks g g' ds) a w

variable {n : Nat} {rd : Option Nat} {T : Env} {Q Q' : Exit → Env → Hp → Prop}

theorem Awp.mono {c : Code} (h : Awp P n rd c T H Q) (hq : ∀ e T' H', Q e T' H' → Q' e T' H') : Awp P n rd c T H Q' :=
  fun base w0 g w a r S hT hr => wpIn_mono (h base w0 g w a r S hT hr) fun _ _ _ ⟨T', H', g', ds, h1, h2⟩ => ⟨T', H', g', ds, hq _ _ _ h1, h2⟩

theorem Awp.skip (h : Q .normal T H) : Awp P n rd .skip T H Q :=
  fun _ _ g _ _ _ S hT _ => wpIn_skip ⟨T, H, g, [], h, Gh.le.refl g, S, hT, rfl, Marks.nil _ _⟩
theorem Awp.label {l : Nat} (h : Q .normal T H) : Awp P n rd (.label l) T H Q :=
  fun _ _ g _ _ _ S hT _ => wpIn_label ⟨T, H, g, [], h, Gh.le.refl g, S, hT, rfl, Marks.nil _ _⟩
theorem Awp.exit {id : Nat} (h : Q (.exit id) T H) : Awp P n rd (.exit id) T H Q :=
  fun _ _ g _ _ _ S hT _ => wpIn_exit ⟨T, H, g, [], h, Gh.le.refl g, S, hT, rfl, Marks.nil _ _⟩
theorem Awp.goto {l : Nat} (h : Q (.goto l) T H) : Awp P n rd (.goto l) T H Q :=
  fun _ _ g _ _ _ S hT _ => wpIn_goto ⟨T, H, g, [], h, Gh.le.refl g, S, hT, rfl, Marks.nil _ _⟩
theorem Awp.ret (h : Q .ret T H) : Awp P n rd .ret T H Q :=
  fun _ _ g _ _ _ S hT _ => wpIn_ret ⟨T, H, g, [], h, Gh.le.refl g, S, hT, rfl, Marks.nil _ _⟩

def thenQ (k : Env → Hp → Prop) (Q : Exit → Env → Hp → Prop) : Exit → Env → Hp → Prop
  | .normal, T, H => k T H
  | e, T, H => Q e T H

def blockQ (id : Nat) (Q : Exit → Env → Hp → Prop) : Exit → Env → Hp → Prop
  | .exit i, T, H => if i = id then Q .normal T H else Q (.exit i) T H
  | e, T, H => Q e T H

theorem Awp.seq {x y : Code} (h : Awp P n rd x T H (thenQ (fun T' H' => Awp P n rd y T' H' Q) Q)) : Awp P n rd (.seq x y) T H Q := by
  intro base w0 g w a r S hT hr
  refine wpIn_seq (wpIn_mono (h base w0 g w a r S hT hr) fun e a' w' ⟨T', H', g', ds, h1, h2, h3, h4, h5, h6⟩ => ?_)
  cases e with
  | normal =>
    refine wpIn_mono (h1 base w0 g' w' a' r h3 h4 (hr.mono h2)) fun e a'' w'' ⟨T'', H'', g'', es, k1, k2, k3, k4, k5, k6⟩ => ?_
    exact ⟨T'', H'', g'', es ++ ds, k1, h2.trans k2, k3, k4, by rw [k5, h5, List.append_assoc], h6.append k6 h2 k2⟩
  | exit id => exact ⟨T', H', g', ds, h1, h2, h3, h4, h5, h6⟩
  | goto l => exact ⟨T', H', g', ds, h1, h2, h3, h4, h5, h6⟩
  | ret => exact ⟨T', H', g', ds, h1, h2, h3, h4, h5, h6⟩
  | panic c => exact ⟨T', H', g', ds, h1, h2, h3, h4, h5, h6⟩
  | outgrown => exact ⟨T', H', g', ds, h1, h2, h3, h4, h5, h6⟩

theorem Awp.cond {c : Operand} {x y : Code} {t : Bool} (hc : evA T c = .val (.bool t)) (hx : t = true → Awp P n rd x T H Q) (hy : t = false → Awp P n rd y T H Q) : Awp P n rd (.cond c x y) T H Q := by
  intro base w0 g w a r S hT hr
  have hcv : a.eval c = .bool t := by
    have := evA_rel hT c
    rw [hc] at this
    generalize a.eval c = v at this
    cases this
    rfl
  exact wpIn_cond_split hcv (fun h => hx h base w0 g w a r S hT hr) (fun h => hy h base w0 g w a r S hT hr)

theorem Awp.block {id : Nat} {c : Code} (h : Awp P n rd c T H (blockQ id Q)) : Awp P n rd (.block id c) T H Q := by
  intro base w0 g w a r S hT hr
  refine wpIn_block (wpIn_mono (h base w0 g w a r S hT hr) fun e a' w' ⟨T', H', g', ds, h1, h2⟩ => ?_)
  cases e with
  | exit i =>
    simp only [blockQ] at h1
    simp only [Exit.inBlock]
    by_cases hi : i = id
    · rw [if_pos hi] at h1 ⊢; exact ⟨T', H', g', ds, h1, h2⟩
    · rw [if_neg hi] at h1 ⊢; exact ⟨T', H', g', ds, h1, h2⟩
  | normal => exact ⟨T', H', g', ds, h1, h2⟩
  | goto l => exact ⟨T', H', g', ds, h1, h2⟩
  | ret => exact ⟨T', H', g', ds, h1, h2⟩
  | panic c => exact ⟨T', H', g', ds, h1, h2⟩
  | outgrown => exact ⟨T', H', g', ds, h1, h2⟩

theorem Awp.region {mu : Nat → Bool} {id : Nat} {ops : Array Oper} (h : ∀ K : Env → Hp → Prop, (∀ T' H', Q .normal T' H' → K T' H') → wpO P mu n none [] ops.toList T H K) : Awp P n rd (.region id ops false) T H Q := by
  intro base w0 g w a r S hT hr
  refine wpIn_region_list ?_
  have := wpO_sound (P := P) (mu := mu) (n := n) (d := none) (ops := ops.toList) (r := r) (base := base) (w0 := w0) (ds := a.defers) (g0 := g) (K := Q .normal)
    (Q := fun e a' w' => ∃ T' H' g' ds, Q e T' H' ∧ g.le g' ∧ Sim base w0 g' H' w' ∧ TRel g' n T' a'.tmps ∧ a'.defers = ds ++ a.defers ∧ Marks g g' ds)
    (fun T H g' w a' hk hg S' hT' hd => ⟨T, H, g', [], hk, hg, S', hT', hd, Marks.nil _ _⟩) ops.toList [] T H g w a (by simp) (by simp) (Gh.le.refl g) S hT rfl (h _ fun _ _ h => h)
  exact this

theorem wpIn_loop_ind {F : Fence} {m : Nat} {c : Code} {Q : Exit → Act → World → Prop} {a : Act} {w : World} {ι : Type} (I : ι → Act → World → Prop) (μ : ι → Nat) (i0 : ι) (h₀ : I i0 a w)
    (round : ∀ i a w, I i a w → c.wpIn F m P (Exit.then (fun a' w' => ∃ j, I j a' w' ∧ μ j < μ i) Q) a w) : (Code.loop c).wpIn F m P Q a w := by
  intro b k cs hro hb hr
  have key : ∀ j i a w, μ i = j → I i a w →
      ∃ e a' w', Q e a' w' ∧ ArrivesIn (Machine.fenced P F) P (lone (b.atR a (.code c :: .inLoop c :: k)) cs w) b k cs e a' w' := by
    intro j
    induction j using Nat.strongRecOn with
    | _ j ih =>
      intro i a w hn hI
      obtain ⟨e, a₁, w₁, hq, harr⟩ := round i a w hI b (.inLoop c :: k) cs hro hb hr
      cases e with
      | normal =>
        obtain ⟨i₁, hI₁, hlt⟩ := hq
        obtain ⟨e₂, a₂, w₂, hq₂, harr₂⟩ := ih (μ i₁) (hn ▸ hlt) i₁ a₁ w₁ rfl hI₁
        exact ⟨e₂, a₂, w₂, hq₂, .of_steps (StepsIn.trans harr (.one (fenced_calm hb hr rfl) stepR_inLoop)) harr₂⟩
      | exit id => exact ⟨_, a₁, w₁, hq, .pass (x := .inLoop c) rfl (fun _ _ => .inl (by simp)) harr⟩
      | goto l => exact ⟨_, a₁, w₁, hq, .pass (x := .inLoop c) rfl (fun _ _ => .inl (by simp)) harr⟩
      | ret => exact ⟨_, a₁, w₁, hq, .pass (x := .inLoop c) rfl (fun _ _ => .inl (by simp)) harr⟩
      | panic ch => exact ⟨_, a₁, w₁, hq, .pass (x := .inLoop c) rfl (fun _ _ => .inl (by simp)) harr⟩
      | outgrown => exact ⟨_, a₁, w₁, hq, .pass (x := .inLoop c) rfl (fun _ _ => .inl (by simp)) harr⟩
  obtain ⟨e, a', w', hq, harr⟩ := key _ i0 a w rfl h₀
  exact ⟨e, a', w', hq, .of_steps (.one (fenced_calm hb hr rfl) stepR_loop) harr⟩

/-- a loop, by a relation over states of the prover's own and a measure of these -/
theorem Awp.loop {c : Code} {ι : Type} (I : ι → Env → Hp → Prop) (μ : ι → Nat) (i0 : ι) (h0 : I i0 T H)
    (round : ∀ i T H, I i T H → Awp P n rd c T H (thenQ (fun T' H' => ∃ j, I j T' H' ∧ μ j < μ i) Q)) : Awp P n rd (.loop c) T H Q := by
  intro base w0 g w a r S hT hr
  refine wpIn_loop_ind (ι := ι) (fun i a' w' => ∃ T' H' g' ds, I i T' H' ∧ g.le g' ∧ Sim base w0 g' H' w' ∧ TRel g' n T' a'.tmps ∧ a'.defers = ds ++ a.defers ∧ Marks g g' ds) μ i0
    ⟨T, H, g, [], h0, Gh.le.refl g, S, hT, rfl, Marks.nil _ _⟩ ?_
  rintro i a1 w1 ⟨T1, H1, g1, ds, h1, h2, h3, h4, h5, h6⟩
  refine wpIn_mono (round i T1 H1 h1 base w0 g1 w1 a1 r h3 h4 (hr.mono h2)) fun e a2 w2 ⟨T2, H2, g2, es, k1, k2, k3, k4, k5, k6⟩ => ?_
  have hall : a2.defers = (es ++ ds) ++ a.defers := by rw [k5, h5, List.append_assoc]
  have hm := h6.append k6 h2 k2
  cases e with
  | normal =>
    obtain ⟨j, hj, hlt⟩ := k1
    exact ⟨j, ⟨T2, H2, g2, es ++ ds, hj, h2.trans k2, k3, k4, hall, hm⟩, hlt⟩
  | exit id => exact ⟨T2, H2, g2, es ++ ds, k1, h2.trans k2, k3, k4, hall, hm⟩
  | goto l => exact ⟨T2, H2, g2, es ++ ds, k1, h2.trans k2, k3, k4, hall, hm⟩
  | ret => exact ⟨T2, H2, g2, es ++ ds, k1, h2.trans k2, k3, k4, hall, hm⟩
  | panic c => exact ⟨T2, H2, g2, es ++ ds, k1, h2.trans k2, k3, k4, hall, hm⟩
  | outgrown => exact ⟨T2, H2, g2, es ++ ds, k1, h2.trans k2, k3, k4, hall, hm⟩

/-! ### what a function hands back -/

/-- what abstract references below n a value has -/
inductive Bel (n : Nat) : AV → Prop
  | val (v : Value) : Bel n (.val v)
  | rptr {cs : List AV} {off : Nat} (h : ∀ c ∈ cs, Bel n c) : Bel n (.rptr cs off)
  | mptr {b i off : Nat} (h : b < n) : Bel n (.mptr b i off)
  | rsl {es : List (List AV)} {ex : Bool} (h : ∀ e ∈ es, ∀ c ∈ e, Bel n c) : Bel n (.rsl es ex)
  | msl {b off len : Nat} (h : b < n) : Bel n (.msl b off len)
  | fn {f : Fn} {cap : List AV} (hy : ∀ l, f ≠ .yield l) (h : ∀ c ∈ cap, Bel n c) : Bel n (.fn f cap)
  | mth {f : FuncId} {pre : List AV} (h : ∀ c ∈ pre, Bel n c) : Bel n (.mth f pre)
  | yld {b : Nat} (h : b < n) : Bel n (.fn (.yield b) [])
  | mp {b : Nat} (h : b < n) : Bel n (.mp b)
  | agg {cs : List AV} (h : ∀ c ∈ cs, Bel n c) : Bel n (.agg cs)
  | tup {cs : List AV} (h : ∀ c ∈ cs, Bel n c) : Bel n (.tup cs)

theorem R.bel {g : Gh} {m : Nat} (hd : ∀ b x, g.ph b = some x → b < m) {a : AV} {v : Value} (h : R g a v) : Bel m a := by
  have arr : ∀ (cs : List AV) (vs : Array Value), cs.length = vs.size → (∀ (i : Nat) (c : AV) (v : Value), cs[i]? = some c → vs[i]? = some v → Bel m c) → ∀ c ∈ cs, Bel m c := by
    intro cs vs hl ih c hc
    obtain ⟨i, hi⟩ := List.getElem?_of_mem hc
    have hlt : i < vs.size := by rw [← hl]; exact (List.getElem?_eq_some_iff.1 hi).1
    exact ih i c vs[i] hi (Array.getElem?_eq_getElem hlt)
  induction h with
  | val v => exact .val v
  | rptr vs hf _ ih => exact .rptr fun c hc => by obtain ⟨i, hi⟩ := List.getElem?_of_mem hc; exact ih i c hi
  | mptr h => exact .mptr (hd _ _ h)
  | rnil => exact .rsl fun e he => by cases he
  | rsl vs hn hl hc hm hk hf _ ih =>
    exact .rsl fun e he c hc => by
      obtain ⟨i, hi⟩ := List.getElem?_of_mem he
      obtain ⟨j, hj⟩ := List.getElem?_of_mem hc
      exact ih i e j c hi hj
  | msl h => exact .msl (hd _ _ h)
  | fn hy hl _ ih => exact .fn hy (arr _ _ hl ih)
  | mth hl _ ih => exact .mth (arr _ _ hl ih)
  | yld h => exact .yld (hd _ _ h)
  | mp h => exact .mp (hd _ _ h)
  | agg hl _ ih => exact .agg (arr _ _ hl ih)
  | tup hl _ ih => exact .tup (arr _ _ hl ih)

/-- own blocks from number m on are forgotten -/
def Gh.cut (g : Gh) (m : Nat) : Gh := { g with ph := fun b => if b < m then g.ph b else none }

theorem Bel.cut {m : Nat} {a : AV} (hb : Bel m a) : ∀ {g : Gh} {v : Value}, R g a v → R (g.cut m) a v := by
  have ph : ∀ (g : Gh) (b x : Nat), b < m → g.ph b = some x → (g.cut m).ph b = some x := fun g b x hb h => by
    show (if b < m then g.ph b else none) = some x
    rw [if_pos hb]; exact h
  induction hb with
  | val v => intro g v h; cases h; exact .val _
  | rptr _ ih => intro g v h; cases h with | rptr vs hf hr => exact .rptr vs hf fun i c hc => ih c (List.mem_of_getElem? hc) (hr i c hc)
  | mptr hb => intro g v h; cases h with | mptr h => exact R.mptr (g := g.cut m) (ph _ _ _ hb h)
  | rsl _ ih => intro g v h; cases h with | rnil a => exact .rnil a | rsl vs hn hl hc hm hk hf hr => exact .rsl vs hn hl hc hm hk hf fun i e j c he hc => ih e (List.mem_of_getElem? he) c (List.mem_of_getElem? hc) (hr i e j c he hc)
  | msl hb => intro g v h; cases h with | msl h hl hc hm => exact R.msl (g := g.cut m) (ph _ _ _ hb h) hl hc hm
  | fn hy _ ih => intro g v h; cases h with
    | fn hy hl hr => exact .fn hy hl fun i c v hc hv => ih c (List.mem_of_getElem? hc) (hr i c v hc hv)
    | yld h => exact absurd rfl (hy _)
  | mth _ ih => intro g v h; cases h with
    | mth hl hr => exact .mth hl fun i c v hc hv => ih c (List.mem_of_getElem? hc) (hr i c v hc hv)
  | yld hb => intro g v h; cases h with
    | fn hy => exact absurd rfl (hy _)
    | yld h => exact .yld (ph _ _ _ hb h)
  | mp hb => intro g v h; cases h with | mp h => exact .mp (ph _ _ _ hb h)
  | agg _ ih => intro g v h; cases h with | agg hl hr => exact .agg hl fun i c v hc hv => ih c (List.mem_of_getElem? hc) (hr i c v hc hv)
  | tup _ ih => intro g v h; cases h with | tup hl hr => exact .tup hl fun i c v hc hv => ih c (List.mem_of_getElem? hc) (hr i c v hc hv)

inductive BelO (m : Nat) : AObj → Prop
  | cells {es : List (List AV)} {t : TypeId} (h : ∀ e ∈ es, ∀ c ∈ e, Bel m c) : BelO m (.cells es t)
  | amap {es : List (AV × AV)} (h : ∀ e ∈ es, Bel m e.1 ∧ Bel m e.2) : BelO m (.amap es)
  | loop {st : LoopState} {pend : Option Code} {f : FuncId} {T : Nat → AV} {n : Nat} {params : Array Tmp} {assign body : Code} {defers : Nat} (h : ∀ t, Bel m (T t)) :
      BelO m (.loop st pend f T n params assign body defers)
  | dead : BelO m .dead

theorem ORel.bel {g : Gh} {m k cp : Nat} (hd : ∀ b x, g.ph b = some x → b < m) {ob : AObj} {o : Obj} (h : ORel g k cp ob o) : BelO m ob := by
  cases h with
  | cells hs hl hk hr =>
    refine .cells fun e he c hc => ?_
    obtain ⟨i, hi⟩ := List.getElem?_of_mem he
    obtain ⟨j, hj⟩ := List.getElem?_of_mem hc
    obtain ⟨v, _, h⟩ := hr i e j c hi hj
    exact h.bel hd
  | loop h => exact .loop fun t => (h.slot t).bel hd
  | amap hl hr =>
    refine .amap fun e he => ?_
    obtain ⟨i, hi⟩ := List.getElem?_of_mem he
    rename_i ms clock
    have hlt : i < ms.size := by rw [← hl]; exact (List.getElem?_eq_some_iff.1 hi).1
    have := hr i e ms[i] hi (Array.getElem?_eq_getElem hlt)
    exact ⟨this.1.bel hd, this.2.bel hd⟩
  | dead => exact .dead

theorem BelO.cut {m k cp : Nat} {ob : AObj} {o : Obj} (hb : BelO m ob) {g : Gh} (h : ORel g k cp ob o) : ORel (g.cut m) k cp ob o := by
  cases h with
  | cells hs hl hk hr =>
    cases hb with
    | cells hb => exact .cells hs hl hk fun i e j c he hc => let ⟨v, h1, h2⟩ := hr i e j c he hc; ⟨v, h1, (hb e (List.mem_of_getElem? he) c (List.mem_of_getElem? hc)).cut h2⟩
  | loop h =>
    cases hb with
    | loop hb => exact .loop ⟨h.size, fun t => (hb t).cut (h.slot t)⟩
  | amap hl hr =>
    cases hb with
    | amap hb => exact .amap hl fun i e m he hm => ⟨(hb e (List.mem_of_getElem? he)).1.cut (hr i e m he hm).1, (hb e (List.mem_of_getElem? he)).2.cut (hr i e m he hm).2⟩
  | dead => exact .dead _

/-- the last blocks of a heap may be forgotten, if nothing of the others leads to them -/
theorem Sim.cut {H1 X : Hp} (S : Sim base w0 g (H1 ++ X) w) (hb : ∀ (b : Nat) (ob : AObj), H1[b]? = some ob → ob ≠ .dead → BelO H1.length ob) : Sim base w0 (g.cut H1.length) H1 w := by
  have ph : ∀ b x, (g.cut H1.length).ph b = some x → b < H1.length ∧ g.ph b = some x := by
    intro b x h
    change (if b < H1.length then g.ph b else none) = some x at h
    split at h
    · exact ⟨by assumption, h⟩
    · cases h
  have old : ∀ (b : Nat) (ob : AObj), H1[b]? = some ob → (H1 ++ X)[b]? = some ob := by
    intro b ob h
    rw [List.getElem?_append_left (List.getElem?_eq_some_iff.1 h).1]; exact h
  exact
  { below := S.below
    low := S.low
    fz := S.fz
    dom := fun b x h => (ph b x h).1
    pos := fun b x h => S.pos b x (ph b x h).2
    sep := fun b x ob h hn hx => S.sep b x ob (old b ob h) hn (ph b x hx).2
    inj := fun b c x ob oc h hn h' hn' hx hx' => S.inj b c x ob oc (old b ob h) hn (old c oc h') hn' (ph b x hx).2 (ph c x hx').2
    obj := fun b ob h hn => by
      obtain ⟨x, o, h1, h2, h3⟩ := S.obj b ob (old b ob h) hn
      refine ⟨x, o, ?_, h2, (hb b ob h hn).cut h3⟩
      show (if b < H1.length then g.ph b else none) = some x
      rw [if_pos (List.getElem?_eq_some_iff.1 h).1]; exact h1
    marks := S.marks }

/-- a value and a heap may be told otherwise -/
def Vs (H0 : Hp) (a : AV) (H : Hp) (a' : AV) (H' : Hp) : Prop :=
  ∀ (base : Nat) (w0 : World) (g0 g : Gh) (w : World) (x : Value), (∀ b x, g0.ph b = some x → b < H0.length) → (∀ (b : Nat) (ob : AObj), H0[b]? = some ob → ob ≠ .dead → BelO H0.length ob) → g0.le g → Sim base w0 g H w → R g a x →
    ∃ g', g0.le g' ∧ Sim base w0 g' H' w ∧ R g' a' x

theorem Vs.refl (H0 : Hp) (a : AV) (H : Hp) : Vs H0 a H a H := fun _ _ _ g _ _ _ _ hg S hR => ⟨g, hg, S, hR⟩

theorem Vs.trans {H0 H1 H2 H3 : Hp} {a b c : AV} (h : Vs H0 a H1 b H2) (k : Vs H0 b H2 c H3) : Vs H0 a H1 c H3 := by
  intro base w0 g0 g w x hd hb hg S hR
  obtain ⟨g1, h1, h2, h3⟩ := h base w0 g0 g w x hd hb hg S hR
  exact k base w0 g0 g1 w x hd hb h1 h2 h3

/-- what the call has made is forgotten, if the result does not lead to it and what was there is as it was -/
theorem Vs.drop {H0 X : Hp} {a : AV} (ha : Bel H0.length a) : Vs H0 a (H0 ++ X) a H0 := by
  intro base w0 g0 g w x hd hb hg S hR
  refine ⟨g.cut H0.length, ⟨hg.fz, fun b y h => ?_, hg.ks, hg.cp, hg.mr⟩, S.cut hb, ha.cut hR⟩
  show (if b < H0.length then g.ph b else none) = some y
  rw [if_pos (hd b y h)]; exact hg.ph b y h

theorem Vs.dropTo {H0 H1 X : Hp} {a : AV} (hl : H0.length ≤ H1.length) (hb1 : (∀ (b : Nat) (ob : AObj), H0[b]? = some ob → ob ≠ .dead → BelO H0.length ob) → ∀ (b : Nat) (ob : AObj), H1[b]? = some ob → ob ≠ .dead → BelO H1.length ob)
    (ha : Bel H1.length a) : Vs H0 a (H1 ++ X) a H1 := by
  intro base w0 g0 g w x hd hb hg S hR
  refine ⟨g.cut H1.length, ⟨hg.fz, fun b y h => ?_, hg.ks, hg.cp, hg.mr⟩, S.cut (hb1 hb), ha.cut hR⟩
  show (if b < H1.length then g.ph b else none) = some y
  rw [if_pos (Nat.lt_of_lt_of_le (hd b y h) hl)]; exact hg.ph b y h

end Go.Proofs.Ytehagceghnjamaa.Ab
namespace Go.Proofs.Ytehagceghnjamaa.Ab
open Go Go.RowKit

variable {base : Nat} {w0 w w' : World} {g : Gh} {H : Hp} {P : Program}

/-! ### which operations do not look at the heap -/

def isP (mu : Nat → Bool) (o : Oper) : Bool :=
  match o.op with
  | .move _ | .assign _ | .pick .. | .build .. | .nilCheck _ | .binOp .. | .unOp .. | .convert .. | .makeFunc .. | .slice .. | .fieldAddr .. | .field .. | .index .. | .extract .. => true
  | .alloc _ | .box .. | .buildSlice .. => !isMu mu o.dst
  | .call { callee := .builtin .max, .. } => true
  | .call { callee := .builtin .min, .. } => true
  | _ => false

theorem evA_congr {T T' : Env} {x : Operand} (h : ∀ t, x = .tmp t → T t = T' t) : evA T x = evA T' x := by
  cases x with
  | tmp t => exact h t rfl
  | _ => rfl

theorem map_congr_op {T T' : Env} {xs : Array Operand} (h : ∀ x ∈ xs, evA T x = evA T' x) : xs.toList.map (evA T) = xs.toList.map (evA T') :=
  List.map_congr_left fun x hx => h x (by simpa using hx)

theorem parts_congr {T T' : Env} {ps : Array (Nat × Operand)} (h : ∀ x ∈ ps.toList.map (·.2), evA T x = evA T' x) : partsA (evA T) ps = partsA (evA T') ps := by
  unfold partsA
  refine List.map_congr_left fun p hp => ?_
  rw [h p.2 (List.mem_map.2 ⟨p, hp, rfl⟩)]

theorem stepA_congr {mu : Nat → Bool} {o : Oper} {T T' : Env} (h : ∀ x ∈ o.op.operands, evA T x = evA T' x) : stepA P mu o T H = stepA P mu o T' H := by
  obtain ⟨dst, op, type, pos, after, guard⟩ := o
  cases op with
  | build t ps => simp only [stepA]; rw [parts_congr fun x hx => h x (by simpa [Op.operands] using hx)]
  | buildSlice t n ps => simp only [stepA]; rw [parts_congr fun x hx => h x (by simpa [Op.operands] using hx)]
  | makeFunc f first captured =>
    simp only [stepA]
    rw [map_congr_op (xs := captured) fun x hx => h x (by simp [Op.operands, hx]), map_congr_op (xs := first) fun x hx => h x (by simp [Op.operands, hx])]
  | slice t x lo hi mx =>
    have e0 := h x (by simp [Op.operands])
    have e1 : lo.map (evA T) = lo.map (evA T') := by cases lo with
      | none => rfl
      | some y => exact congrArg some (h y (by simp [Op.operands]))
    have e2 : hi.map (evA T) = hi.map (evA T') := by cases hi with
      | none => rfl
      | some y => exact congrArg some (h y (by simp [Op.operands]))
    have e3 : mx.map (evA T) = mx.map (evA T') := by cases mx with
      | none => rfl
      | some y => exact congrArg some (h y (by simp [Op.operands]))
    simp only [stepA, e0, e1, e2, e3]
  | call c =>
    obtain ⟨callee, args, aT⟩ := c
    cases callee with
    | builtin b => simp only [stepA]; rw [map_congr_op (xs := args) fun x hx => h x (by simp [Op.operands, Call.operands, hx])]
    | _ => rfl
  | pick c a b => have e1 := h c (by simp [Op.operands]); have e2 := h a (by simp [Op.operands]); have e3 := h b (by simp [Op.operands]); simp only [stepA, e1, e2, e3]
  | store t a x => have e1 := h a (by simp [Op.operands]); have e2 := h x (by simp [Op.operands]); simp only [stepA, e1, e2]
  | binOp op t x y t' => have e1 := h x (by simp [Op.operands]); have e2 := h y (by simp [Op.operands]); simp only [stepA, e1, e2]
  | makeSlice t l c => have e1 := h l (by simp [Op.operands]); have e2 := h c (by simp [Op.operands]); simp only [stepA, e1, e2]
  | indexAddr t x i => have e1 := h x (by simp [Op.operands]); have e2 := h i (by simp [Op.operands]); simp only [stepA, e1, e2]
  | index t x i => have e1 := h x (by simp [Op.operands]); have e2 := h i (by simp [Op.operands]); simp only [stepA, e1, e2]
  | move x => have e1 := h x (by simp [Op.operands]); simp only [stepA, e1]
  | assign x => have e1 := h x (by simp [Op.operands]); simp only [stepA, e1]
  | box e x => have e1 := h x (by simp [Op.operands]); simp only [stepA, e1]
  | load t x => have e1 := h x (by simp [Op.operands]); simp only [stepA, e1]
  | nilCheck x => have e1 := h x (by simp [Op.operands]); simp only [stepA, e1]
  | unOp op t x => have e1 := h x (by simp [Op.operands]); simp only [stepA, e1]
  | convert s d x => have e1 := h x (by simp [Op.operands]); simp only [stepA, e1]
  | fieldAddr s x f => have e1 := h x (by simp [Op.operands]); simp only [stepA, e1]
  | field t x f => have e1 := h x (by simp [Op.operands]); simp only [stepA, e1]
  | extract t ix => have e1 := h t (by simp [Op.operands]); simp only [stepA, e1]
  | _ => rfl

theorem stepA_P {mu : Nat → Bool} {o : Oper} {T : Env} {v : AV} {H' : Hp} (hp : isP mu o = true) (h : stepA P mu o T H = some (v, H')) (H2 : Hp) : H' = H ∧ stepA P mu o T H2 = some (v, H2) := by
  have mp : ∀ (x : Option AV), x.map (·, H) = some (v, H') → H' = H ∧ x.map (·, H2) = some (v, H2) := by
    intro x hx
    cases x with
    | none => cases hx
    | some y => cases hx; exact ⟨rfl, rfl⟩
  obtain ⟨dst, op, type, pos, after, guard⟩ := o
  cases op with
  | move x => simp only [stepA, Option.some.injEq, Prod.mk.injEq] at h ⊢; exact ⟨h.2.symm, h.1, trivial⟩
  | assign x => simp only [stepA, Option.some.injEq, Prod.mk.injEq] at h ⊢; exact ⟨h.2.symm, h.1, trivial⟩
  | pick c a b =>
    simp only [stepA] at h ⊢
    split at h
    · simp only [Option.some.injEq, Prod.mk.injEq] at h ⊢; exact ⟨h.2.symm, h.1, trivial⟩
    · cases h
  | build t ps => simp only [stepA] at h ⊢; exact mp _ h
  | nilCheck x =>
    simp only [stepA] at h ⊢
    split at h <;> first
      | (cases h; done)
      | (simp only [Option.some.injEq, Prod.mk.injEq] at h ⊢; exact ⟨h.2.symm, h.1, trivial⟩)
  | binOp op t x y t' => simp only [stepA] at h ⊢; exact mp _ h
  | unOp op t x => simp only [stepA] at h ⊢; exact mp _ h
  | convert s d x => simp only [stepA] at h ⊢; exact mp _ h
  | makeFunc f first captured =>
    simp only [stepA] at h ⊢
    split at h
    · split at h
      · rename_i h0; rw [if_pos h0]; simp only [Option.some.injEq, Prod.mk.injEq] at h ⊢; exact ⟨h.2.symm, h.1, trivial⟩
      · split at h
        · rename_i h0 h1; rw [if_neg h0, if_pos h1]; simp only [Option.some.injEq, Prod.mk.injEq] at h ⊢; exact ⟨h.2.symm, h.1, trivial⟩
        · cases h
    · cases h
  | slice t x lo hi mx => simp only [stepA] at h ⊢; exact mp _ h
  | fieldAddr s x f =>
    simp only [stepA] at h ⊢
    split at h
    · split at h <;> first
        | (cases h; done)
        | (simp only [Option.some.injEq, Prod.mk.injEq] at h ⊢; exact ⟨h.2.symm, h.1, trivial⟩)
    · cases h
  | field t x f =>
    simp only [stepA] at h ⊢
    split at h <;> first
      | (cases h; done)
      | exact mp _ h
  | index t x i =>
    simp only [stepA] at h ⊢
    split at h
    · rename_i u v' _ _
      cases hq : pureRun P (Instr.index t u v') with
      | none => rw [hq] at h; cases h
      | some z => rw [hq] at h; cases h; exact ⟨rfl, rfl⟩
    · cases h
  | extract t ix =>
    simp only [stepA] at h ⊢
    split at h
    · exact mp _ h
    · rename_i vs _
      cases hq : vs[ix]? with
      | none => rw [hq] at h; cases h
      | some z => rw [hq] at h; cases h; exact ⟨rfl, rfl⟩
    · cases h
  | alloc e =>
    simp only [isP, Bool.not_eq_true'] at hp
    simp only [stepA, hp, boxA] at h ⊢
    split at h
    · simp only [Bool.false_eq_true, if_false, Option.some.injEq, Prod.mk.injEq] at h ⊢; exact ⟨h.2.symm, h.1, trivial⟩
    · cases h
  | box e x =>
    simp only [isP, Bool.not_eq_true'] at hp
    simp only [stepA, hp, boxA] at h ⊢
    simp only [Bool.false_eq_true, if_false, Option.some.injEq, Prod.mk.injEq] at h ⊢; exact ⟨h.2.symm, h.1, trivial⟩
  | buildSlice t n ps =>
    simp only [isP, Bool.not_eq_true'] at hp
    simp only [stepA, hp] at h ⊢
    split at h
    · simp only [Bool.false_eq_true, if_false, Option.some.injEq, Prod.mk.injEq] at h ⊢; exact ⟨h.2.symm, h.1, trivial⟩
    · cases h
  | call c =>
    obtain ⟨callee, args, aT⟩ := c
    cases callee with
    | builtin b =>
      cases b <;> first
        | (simp [isP] at hp; done)
        | (simp only [stepA, builtinA] at h ⊢; exact mp _ h)
    | _ => simp [isP] at hp
  | _ => simp [isP] at hp

end Go.Proofs.Ytehagceghnjamaa.Ab
namespace Go.Proofs.Ytehagceghnjamaa.Ab
open Go Go.RowKit

variable {base : Nat} {w0 w w' : World} {g : Gh} {H : Hp} {P : Program}

theorem PerfTo.congr {mu : Nat → Bool} {o : Oper} {T T' : Env} {v : AV} {H' : Hp} (he : ∀ x ∈ o.op.operands, evA T x = evA T' x) (h : PerfTo P mu o T H v H') : PerfTo P mu o T' H v H' := by
  unfold PerfTo at h ⊢
  split
  · rename_i f args e
    rw [e] at h
    obtain ⟨aT, ho⟩ := callOf_eq e
    have e1 := he f (by simp [ho, Op.operands, Call.operands])
    have e2 := map_congr_op (xs := args) (T := T) (T' := T') fun x hx => he x (by simp [ho, Op.operands, Call.operands, hx])
    simp only at h
    rw [← e1, ← e2]
    exact h
  · rename_i e
    rw [e] at h
    simp only at h
    rw [← stepA_congr he]
    exact h

structure StepR (P : Program) (mu : Nat → Bool) (n : Nat) (W : Draw) (i : Nat) (dsts : List (Option Tmp)) (o : Oper) (T : Env) (H : Hp) (v : AV) (T' : Env) (H' : Hp) : Prop where
  dst : dstOk n o.dst = true
  put : T' = putA T o.dst v
  how : ∃ b, guardA dsts o.guard T = some b ∧ (b = true → PerfTo P mu o T H v H' ∧ okD P mu (some W) i o T H v H') ∧ (b = false → v = .val undef ∧ H' = H)

theorem guardA_more {done more : List (Option Tmp)} {gd : Option (Nat × Bool)} {T : Env} {b : Bool} (h : guardA done gd T = some b) : guardA (done ++ more) gd T = some b := by
  cases gd with
  | none => exact h
  | some p =>
    obtain ⟨j, want⟩ := p
    simp only [guardA] at h ⊢
    split at h
    · rename_i s hs
      rw [List.getElem?_append_left (List.getElem?_eq_some_iff.1 hs).1, hs]
      exact h
    · cases h

theorem trace_of {mu : Nat → Bool} {n : Nat} {W : Draw} {K : Env → Hp → Prop} : ∀ (l : List Oper) (done : List (Option Tmp)) (T : Env) (H : Hp), wpO P mu n (some W) done l T H K →
    ∃ (Ts : Nat → Env) (Hs : Nat → Hp) (vs : Nat → AV), Ts 0 = T ∧ Hs 0 = H ∧ K (Ts l.length) (Hs l.length) ∧
      ∀ (i : Nat) (o : Oper), l[i]? = some o → StepR P mu n W (done.length + i) (done ++ l.map (·.dst)) o (Ts i) (Hs i) (vs i) (Ts (i + 1)) (Hs (i + 1))
  | [], done, T, H, h => ⟨fun _ => T, fun _ => H, fun _ => .val undef, rfl, rfl, h, by simp⟩
  | o :: rest, done, T, H, h => by
    obtain ⟨hd, b, hb, h1, h2⟩ := h
    have key : ∃ v H', ((b = true → PerfTo P mu o T H v H' ∧ okD P mu (some W) done.length o T H v H') ∧ (b = false → v = .val undef ∧ H' = H)) ∧ wpO P mu n (some W) (done ++ [o.dst]) rest (putA T o.dst v) H' K := by
      cases b with
      | true =>
        obtain ⟨v, H', k1, k2, k3⟩ := h1 rfl
        exact ⟨v, H', ⟨fun _ => ⟨k1, k2⟩, fun h => by cases h⟩, k3⟩
      | false => exact ⟨.val undef, H, ⟨fun h => (by cases h), fun _ => ⟨rfl, rfl⟩⟩, h2 rfl⟩
    obtain ⟨v, H', hs, hk⟩ := key
    obtain ⟨Ts, Hs, vs, t0, h0, hK, hst⟩ := trace_of rest _ _ _ hk
    refine ⟨fun i => match i with | 0 => T | i + 1 => Ts i, fun i => match i with | 0 => H | i + 1 => Hs i, fun i => match i with | 0 => v | i + 1 => vs i, rfl, rfl, hK, fun i x hx => ?_⟩
    cases i with
    | zero =>
      simp only [List.getElem?_cons_zero, Option.some.injEq] at hx
      subst hx
      refine ⟨hd, t0, b, guardA_more hb, ?_⟩
      show (b = true → PerfTo P mu o T H v (Hs 0) ∧ okD P mu (some W) (done.length + 0) o T H v (Hs 0)) ∧ (b = false → v = .val undef ∧ Hs 0 = H)
      rw [h0]
      exact hs
    | succ i =>
      have := hst i x (by simpa using hx)
      simp only [List.length_append, List.length_cons, List.length_nil] at this
      rw [show done.length + (0 + 1) + i = done.length + (i + 1) by omega, List.append_assoc] at this
      simpa using this

/-! ### the check of an order -/

def confl (mu : Nat → Bool) (W : Draw) (i j : Nat) (x y : Oper) : Bool := (W.ev i && (W.ev j || !(isP mu y || W.rf j))) || (W.ev j && !(isP mu x || W.rf i))

def drawOk (mu : Nat → Bool) (W : Draw) (ops : Array Oper) (bs : List Nat) : Bool :=
  (List.range ops.size).all fun i => match ops[i]? with
    | none => false
    | some x =>
      x.after.all (fun e => !Region.binds .any e || decide (e.on < i)) &&
      (match x.op with | .select .. => false | _ => true) &&
      (List.range ops.size).all fun j => match ops[j]? with
        | none => false
        | some y =>
          (!(bs.getD i 0).testBit j || x.after.any (fun e => Region.binds .any e && (e.on == j || (bs.getD e.on 0).testBit j))) &&
          (!decide (i < j) || (bs.getD j 0).testBit i || (x.apart ops y && !confl mu W i j x y))

structure Drawn (mu : Nat → Bool) (W : Draw) (ops : Array Oper) (bs : List Nat) : Prop where
  back : ∀ (i : Nat) (x : Oper), ops[i]? = some x → ∀ e ∈ x.after, Region.binds .any e = true → e.on < i
  cert : ∀ (i j : Nat) (x : Oper), ops[i]? = some x → j < ops.size → (bs.getD i 0).testBit j = true → ∃ e ∈ x.after, Region.binds .any e = true ∧ (e.on = j ∨ (bs.getD e.on 0).testBit j = true)
  free : ∀ (i j : Nat) (x y : Oper), ops[i]? = some x → ops[j]? = some y → i < j → (bs.getD j 0).testBit i = true ∨ (x.apart ops y = true ∧ confl mu W i j x y = false)

theorem drawOk_spec {mu : Nat → Bool} {W : Draw} {ops : Array Oper} {bs : List Nat} (h : drawOk mu W ops bs = true) : Drawn mu W ops bs := by
  unfold drawOk at h
  rw [List.all_eq_true] at h
  have hi : ∀ (i : Nat) (x : Oper), ops[i]? = some x → i < ops.size := fun i x hx => (Array.getElem?_eq_some_iff.1 hx).1
  refine ⟨fun i x hx e he hb => ?_, fun i j x hx hj ht => ?_, fun i j x y hx hy hij => ?_⟩
  · have := h i (List.mem_range.2 (hi i x hx))
    rw [hx] at this
    simp only [Bool.and_eq_true] at this
    have := Array.all_eq_true_iff_forall_mem.1 this.1.1 e he
    simpa [hb] using this
  · have := h i (List.mem_range.2 (hi i x hx))
    rw [hx] at this
    simp only [Bool.and_eq_true] at this
    have := List.all_eq_true.1 this.2 j (List.mem_range.2 hj)
    have hy : ops[j]? = some ops[j] := Array.getElem?_eq_getElem hj
    rw [hy] at this
    simp only [Bool.and_eq_true, ht, Bool.not_true, Bool.false_or, Array.any_eq_true'] at this
    obtain ⟨e, he, h1⟩ := this.1
    simp only [Bool.or_eq_true, beq_iff_eq] at h1
    exact ⟨e, he, h1.1, h1.2⟩
  · have := h i (List.mem_range.2 (hi i x hx))
    rw [hx] at this
    simp only [Bool.and_eq_true] at this
    have := List.all_eq_true.1 this.2 j (List.mem_range.2 (hi j y hy))
    rw [hy] at this
    simp only [Bool.and_eq_true, Bool.or_eq_true, Bool.not_eq_true', decide_eq_false_iff_not] at this
    rcases this.2 with (h1 | h1) | h1
    · exact absurd hij h1
    · exact .inl h1
    · exact .inr h1

/-! ### what stands when some of the operations have been done -/

section done
variable (ops : Array Oper) (T0 : Env) (H0 : Hp) (Hs : Nat → Hp) (vs : Nat → AV) (ev : Nat → Bool) (L : Nat → Bool)

def Tc : Nat → Env
  | 0 => T0
  | i + 1 => if L i then putA (Tc i) ((ops[i]?).bind (·.dst)) (vs i) else Tc i

def Hc : Nat → Hp
  | 0 => H0
  | i + 1 => if L i && ev i then Hs (i + 1) else Hc i
end done

theorem putA_ne {T : Env} {dst : Option Tmp} {v : AV} {t : Nat} (h : dst ≠ some t) : putA T dst v t = T t := by
  cases dst with
  | none => rfl
  | some d =>
    show (if t = d then v else T t) = T t
    rw [if_neg (fun e => h (by rw [e]))]

theorem putA_eq {T : Env} {v : AV} {t : Nat} : putA T (some t) v t = v := by
  show (if t = t then v else T t) = v
  rw [if_pos rfl]

section main
variable {ops : Array Oper} {T0 : Env} {H0 : Hp} {Ts : Nat → Env} {Hs : Nat → Hp} {vs : Nat → AV} {W : Draw} {mu : Nat → Bool} {n : Nat} {bs : List Nat}

/-- up to m all that writes slot t has been done: the slot is what it is in the order of the text -/
theorem Tc_upto {L : Nat → Bool} (t0 : Ts 0 = T0) (hst : ∀ (i : Nat) (o : Oper), ops[i]? = some o → StepR P mu n W i (ops.toList.map (·.dst)) o (Ts i) (Hs i) (vs i) (Ts (i + 1)) (Hs (i + 1))) (t : Nat) :
    ∀ m, m ≤ ops.size → (∀ j o, j < m → ops[j]? = some o → o.dst = some t → L j = true) → Tc ops T0 vs L m t = Ts m t
  | 0, _, _ => by rw [t0]; rfl
  | m + 1, hm, h => by
    have ih := Tc_upto t0 hst t m (by omega) (fun j o hj => h j o (by omega))
    have ho : ops[m]? = some ops[m] := Array.getElem?_eq_getElem (by omega)
    have hs := (hst m _ ho).put
    have hd : (ops[m]?).bind (·.dst) = ops[m].dst := by rw [ho]; rfl
    show (if L m then putA (Tc ops T0 vs L m) ((ops[m]?).bind (·.dst)) (vs m) else Tc ops T0 vs L m) t = _
    rw [hs, hd]
    by_cases hw : ops[m].dst = some t
    · rw [if_pos (h m _ (by omega) ho hw), hw, putA_eq, putA_eq]
    · rw [putA_ne hw, ← ih]
      split
      · exact putA_ne hw
      · rfl

/-- from m on nothing that writes slot t has been done -/
theorem Tc_from {L : Nat → Bool} (t m : Nat) : ∀ k, (∀ j o, m ≤ j → j < m + k → ops[j]? = some o → o.dst = some t → L j = false) → Tc ops T0 vs L (m + k) t = Tc ops T0 vs L m t
  | 0, _ => rfl
  | k + 1, h => by
    have ih := Tc_from t m k (fun j o h1 h2 => h j o h1 (by omega))
    rw [← ih]
    show (if L (m + k) then putA (Tc ops T0 vs L (m + k)) ((ops[m + k]?).bind (·.dst)) (vs (m + k)) else Tc ops T0 vs L (m + k)) t = _
    split
    · rename_i hl
      refine putA_ne fun hd => ?_
      obtain ⟨o, ho, hd⟩ := Option.bind_eq_some_iff.1 hd
      rw [h (m + k) o (by omega) (by omega) ho hd] at hl
      cases hl
    · rfl

theorem Hc_upto {L : Nat → Bool} (h0 : Hs 0 = H0) (hst : ∀ (i : Nat) (o : Oper), ops[i]? = some o → StepR P mu n W i (ops.toList.map (·.dst)) o (Ts i) (Hs i) (vs i) (Ts (i + 1)) (Hs (i + 1))) :
    ∀ m, m ≤ ops.size → (∀ j, j < m → W.ev j = true → L j = true) → Hc H0 Hs W.ev L m = Hs m
  | 0, _, _ => by rw [h0]; rfl
  | m + 1, hm, h => by
    have ih := Hc_upto h0 hst m (by omega) (fun j hj => h j (by omega))
    have ho : ops[m]? = some ops[m] := Array.getElem?_eq_getElem (by omega)
    show (if L m && W.ev m then Hs (m + 1) else Hc H0 Hs W.ev L m) = _
    cases he : W.ev m with
    | true => rw [h m (by omega) he]; rfl
    | false =>
      rw [Bool.and_false, if_neg (by simp), ih]
      obtain ⟨b, _, h1, h2⟩ := (hst m _ ho).how
      cases b with
      | true => exact ((h1 rfl).2.1 he).symm
      | false => exact (h2 rfl).2.symm

theorem Hc_from {L : Nat → Bool} (m : Nat) : ∀ k, (∀ j, m ≤ j → j < m + k → W.ev j = true → L j = false) → Hc H0 Hs W.ev L (m + k) = Hc H0 Hs W.ev L m
  | 0, _ => rfl
  | k + 1, h => by
    have ih := Hc_from m k (fun j h1 h2 => h j h1 (by omega))
    rw [← ih]
    have hc : ¬ (L (m + k) && W.ev (m + k)) = true := by
      intro hc
      simp only [Bool.and_eq_true] at hc
      rw [h (m + k) (by omega) (by omega) hc.2] at hc
      cases hc.1
    show (if L (m + k) && W.ev (m + k) then Hs (m + k + 1) else Hc H0 Hs W.ev L (m + k)) = _
    rw [if_neg hc]

def setL (L : Nat → Bool) (i : Nat) : Nat → Bool := fun j => if j = i then true else L j

theorem Tc_setL {L : Nat → Bool} {i : Nat} {o : Oper} (ho : ops[i]? = some o) (hL : L i = false) (t : Nat) :
    ∀ k, (∀ j x, i < j → j < i + 1 + k → ops[j]? = some x → L j = true → o.dst = some t → x.dst ≠ some t) → Tc ops T0 vs (setL L i) (i + 1 + k) t = if o.dst = some t then vs i else Tc ops T0 vs L (i + 1 + k) t
  | 0, _ => by
    have pre : ∀ m, m ≤ i → Tc ops T0 vs (setL L i) m = Tc ops T0 vs L m := by
      intro m
      induction m with
      | zero => intro _; rfl
      | succ m ih =>
        intro hm
        have hne : m ≠ i := by omega
        show (if setL L i m then putA (Tc ops T0 vs (setL L i) m) _ _ else Tc ops T0 vs (setL L i) m) = (if L m then putA (Tc ops T0 vs L m) _ _ else Tc ops T0 vs L m)
        rw [ih (by omega), show setL L i m = L m from if_neg hne]
    show (if setL L i i then putA (Tc ops T0 vs (setL L i) i) ((ops[i]?).bind (·.dst)) (vs i) else _) t = if o.dst = some t then vs i else (if L i then _ else Tc ops T0 vs L i) t
    rw [show setL L i i = true from if_pos rfl, if_pos rfl, pre i (Nat.le_refl _), hL, ho]
    simp only [Option.bind_some, Bool.false_eq_true, if_false]
    by_cases hd : o.dst = some t
    · rw [if_pos hd, hd, putA_eq]
    · rw [if_neg hd, putA_ne hd]
  | k + 1, h => by
    have ih := Tc_setL ho hL t k (fun j x h1 h2 => h j x h1 (by omega))
    have hne : i + 1 + k ≠ i := by omega
    show (if setL L i (i + 1 + k) then putA (Tc ops T0 vs (setL L i) (i + 1 + k)) ((ops[i + 1 + k]?).bind (·.dst)) (vs (i + 1 + k)) else Tc ops T0 vs (setL L i) (i + 1 + k)) t =
      if o.dst = some t then vs i else (if L (i + 1 + k) then putA (Tc ops T0 vs L (i + 1 + k)) ((ops[i + 1 + k]?).bind (·.dst)) (vs (i + 1 + k)) else Tc ops T0 vs L (i + 1 + k)) t
    rw [show setL L i (i + 1 + k) = L (i + 1 + k) from if_neg hne]
    cases hl : L (i + 1 + k) with
    | false => simp only [Bool.false_eq_true, if_false]; exact ih
    | true =>
      simp only [if_true]
      by_cases hd : (ops[i + 1 + k]?).bind (·.dst) = some t
      · obtain ⟨x, hx, hxd⟩ := Option.bind_eq_some_iff.1 hd
        rw [hd, putA_eq, putA_eq]
        by_cases hod : o.dst = some t
        · exact absurd hxd (h _ x (by omega) (by omega) hx hl hod)
        · rw [if_neg hod]
      · rw [putA_ne hd, putA_ne hd]; exact ih

theorem Hc_setL {L : Nat → Bool} {i : Nat} (hL : L i = false) : ∀ k, (∀ j, i < j → j < i + 1 + k → L j = true → W.ev i = true → W.ev j = false) →
    Hc H0 Hs W.ev (setL L i) (i + 1 + k) = if W.ev i then Hs (i + 1) else Hc H0 Hs W.ev L (i + 1 + k)
  | 0, _ => by
    have pre : ∀ m, m ≤ i → Hc H0 Hs W.ev (setL L i) m = Hc H0 Hs W.ev L m := by
      intro m
      induction m with
      | zero => intro _; rfl
      | succ m ih =>
        intro hm
        have hne : m ≠ i := by omega
        show (if setL L i m && W.ev m then Hs (m + 1) else Hc H0 Hs W.ev (setL L i) m) = (if L m && W.ev m then Hs (m + 1) else Hc H0 Hs W.ev L m)
        rw [ih (by omega), show setL L i m = L m from if_neg hne]
    show (if setL L i i && W.ev i then Hs (i + 1) else Hc H0 Hs W.ev (setL L i) i) = if W.ev i then Hs (i + 1) else (if L i && W.ev i then _ else Hc H0 Hs W.ev L i)
    rw [show setL L i i = true from if_pos rfl, pre i (Nat.le_refl _), hL]
    simp
  | k + 1, h => by
    have ih := Hc_setL hL k (fun j h1 h2 => h j h1 (by omega))
    have hne : i + 1 + k ≠ i := by omega
    show (if setL L i (i + 1 + k) && W.ev (i + 1 + k) then Hs (i + 1 + k + 1) else Hc H0 Hs W.ev (setL L i) (i + 1 + k)) = if W.ev i then Hs (i + 1) else (if L (i + 1 + k) && W.ev (i + 1 + k) then Hs (i + 1 + k + 1) else Hc H0 Hs W.ev L (i + 1 + k))
    rw [show setL L i (i + 1 + k) = L (i + 1 + k) from if_neg hne, ih]
    by_cases he : W.ev i = true
    · rw [if_pos he, if_pos he, if_neg]
      intro hc
      simp only [Bool.and_eq_true] at hc
      rw [h _ (by omega) (by omega) hc.1 he] at hc
      cases hc.2
    · rw [if_neg he, if_neg he]

/-- the heap that stands is one that stood in the order of the text -/
theorem Hc_is {L : Nat → Bool} : ∀ m, Hc H0 Hs W.ev L m = H0 ∨ ∃ k, k < m ∧ Hc H0 Hs W.ev L m = Hs (k + 1)
  | 0 => .inl rfl
  | m + 1 => by
    show (if L m && W.ev m then Hs (m + 1) else Hc H0 Hs W.ev L m) = H0 ∨ ∃ k, k < m + 1 ∧ (if L m && W.ev m then Hs (m + 1) else Hc H0 Hs W.ev L m) = Hs (k + 1)
    split
    · exact .inr ⟨m, by omega, rfl⟩
    · rcases Hc_is m with h | ⟨k, hk, h⟩
      · exact .inl h
      · exact .inr ⟨k, by omega, h⟩

theorem Hs_agree (hst : ∀ (i : Nat) (o : Oper), ops[i]? = some o → StepR P mu n W i (ops.toList.map (·.dst)) o (Ts i) (Hs i) (vs i) (Ts (i + 1)) (Hs (i + 1))) : ∀ m, m ≤ ops.size → W.agree (Hs 0) (Hs m)
  | 0, _ => .refl _ _
  | m + 1, hm => by
    refine (Hs_agree hst m (by omega)).trans ?_
    obtain ⟨b, _, h1, h2⟩ := (hst m _ (Array.getElem?_eq_getElem (by omega))).how
    cases b with
    | true => exact (h1 rfl).2.2.1
    | false => rw [(h2 rfl).2]; exact .refl _ _

theorem Hc_agree {L : Nat → Bool} (h0 : Hs 0 = H0) (hst : ∀ (i : Nat) (o : Oper), ops[i]? = some o → StepR P mu n W i (ops.toList.map (·.dst)) o (Ts i) (Hs i) (vs i) (Ts (i + 1)) (Hs (i + 1))) (m : Nat) (hm : m ≤ ops.size) (i : Nat) (hi : i ≤ ops.size) :
    W.agree (Hs i) (Hc H0 Hs W.ev L m) := by
  refine (Hs_agree hst i hi).symm.trans ?_
  rcases Hc_is (W := W) (H0 := H0) (Hs := Hs) (L := L) m with h | ⟨k, hk, h⟩
  · rw [h, h0]; exact .refl _ _
  · rw [h]; exact Hs_agree hst (k + 1) (by omega)

end main

end Go.Proofs.Ytehagceghnjamaa.Ab
namespace Go.Proofs.Ytehagceghnjamaa.Ab
open Go Go.RowKit

variable {base : Nat} {w0 w w' : World} {g : Gh} {H : Hp} {P : Program}

theorem nodup_le : ∀ (N : Nat) (S : List Nat), S.Nodup → (∀ k ∈ S, k < N) → S.length ≤ N
  | 0, S, _, h => by
    cases S with
    | nil => exact Nat.le_refl _
    | cons a l => exact absurd (h a (by simp)) (Nat.not_lt_zero _)
  | N + 1, S, hS, h => by
    by_cases hN : N ∈ S
    · have := nodup_le N (S.erase N) (hS.erase N) (fun k hk => by
        have h1 := h k (List.mem_of_mem_erase hk)
        have h2 : k ≠ N := fun e => by subst e; exact (List.Nodup.not_mem_erase hS) hk
        omega)
      rw [List.length_erase_of_mem hN] at this
      omega
    · have := nodup_le N S hS (fun k hk => by
        have h1 := h k hk
        have h2 : k ≠ N := fun e => by subst e; exact hN hk
        omega)
      omega

theorem guardA_wanted2 {n : Nat} {ops : Array Oper} {done : List (Option Tmp)} {o : Oper} {T : Env} {a : Act} {b : Bool} (hT : TRel g n T a.tmps)
    (hd : ∀ (j : Nat) (s : Tmp), done[j]? = some (some s) → (ops[j]?).bind (·.dst) = some s ∧ s < n) (h : guardA done o.guard T = some b) : Region.wanted o (yielded ops a.tmps) = b := by
  unfold Region.wanted
  cases hg : o.guard with
  | none => rw [hg] at h; simp only [guardA, Option.some.injEq] at h; exact h
  | some p =>
    obtain ⟨j, want⟩ := p
    rw [hg] at h
    simp only [guardA] at h
    split at h
    · rename_i s hs
      obtain ⟨hdst, hsn⟩ := hd j s hs
      have hlt : s < a.tmps.size := by rw [hT.size]; exact hsn
      have hslot := hT.slot s
      rw [Array.getD_eq_getD_getElem?] at hslot
      obtain ⟨x, hx⟩ : ∃ x, a.tmps[s]? = some x := ⟨_, Array.getElem?_eq_getElem hlt⟩
      rw [hx, Option.getD_some] at hslot
      simp only [yielded, hdst, Option.bind_some, hx]
      split at h
      · rename_i t et
        rw [et] at hslot
        cases hslot
        cases h
        simp
      · rename_i v hnb ev
        rw [ev] at hslot
        cases hslot
        cases h
        cases x <;> first | rfl | exact absurd rfl (hnb _ )
      · cases h
    · cases h

theorem isP_call {mu : Nat → Bool} {o : Oper} (h : isP mu o = true) : callOf o = none := by
  obtain ⟨dst, op, type, pos, after, guard⟩ := o
  cases op with
  | call c =>
    obtain ⟨callee, args, aT⟩ := c
    cases callee with
    | builtin b => rfl
    | _ => simp [isP] at h
  | _ => rfl

theorem PerfTo.any {mu : Nat → Bool} {o : Oper} {T : Env} {v : AV} {H' : Hp} (hp : isP mu o = true) (h : PerfTo P mu o T H v H') (H2 : Hp) : PerfTo P mu o T H2 v H2 := by
  unfold PerfTo at h ⊢
  rw [isP_call hp] at h ⊢
  exact (stepA_P hp h H2).2

theorem any_sound {ops : Array Oper} {T0 : Env} {H0 : Hp} {Ts : Nat → Env} {Hs : Nat → Hp} {vs : Nat → AV} {W : Draw} {mu : Nat → Bool} {n : Nat} {bs : List Nat} {r : Option Nat} {Q : Exit → Act → World → Prop} {ds : List Deferred} {g0 : Gh} {K : Env → Hp → Prop}
    (D : Drawn mu W ops bs) (t0 : Ts 0 = T0) (h0 : Hs 0 = H0)
    (hst : ∀ (i : Nat) (o : Oper), ops[i]? = some o → StepR P mu n W i (ops.toList.map (·.dst)) o (Ts i) (Hs i) (vs i) (Ts (i + 1)) (Hs (i + 1))) (hK : K (Ts ops.size) (Hs ops.size))
    (hQ : ∀ T H g w a, K T H → g0.le g → Sim base w0 g H w → TRel g n T a.tmps → a.defers = ds → Q .normal a w) :
    ∀ (fuel : Nat) (listed : Array Bool) (g : Gh) (w : World) (a : Act), listed.size = ops.size →
      (∀ i j, i < ops.size → j < ops.size → listed.getD i false = true → (bs.getD i 0).testBit j = true → listed.getD j false = true) →
      (∀ S : List Nat, S.Nodup → (∀ i ∈ S, i < ops.size ∧ listed.getD i false = false) → S.length ≤ fuel) →
      g0.le g → Sim base w0 g (Hc H0 Hs W.ev (fun i => listed.getD i false) ops.size) w → TRel g n (Tc ops T0 vs (fun i => listed.getD i false) ops.size) a.tmps → a.defers = ds →
      wpAnyIn (FR r) 0 P .any ops Q fuel listed a w := by
  have hdsts : ∀ (j : Nat) (s : Tmp), (ops.toList.map (·.dst))[j]? = some (some s) → (ops[j]?).bind (·.dst) = some s ∧ s < n := by
    intro j s hs
    rw [List.getElem?_map, Option.map_eq_some_iff] at hs
    obtain ⟨o, ho, hd⟩ := hs
    have ho' : ops[j]? = some o := by simpa using ho
    refine ⟨by rw [ho']; exact hd, ?_⟩
    have := (hst j o ho').dst
    rw [hd] at this
    simpa [dstOk] using this
  have alldone : ∀ (listed : Array Bool) (g : Gh) (w : World) (a : Act), listed.size = ops.size → Region.ready .any ops listed = [] → g0.le g → Sim base w0 g (Hc H0 Hs W.ev (fun i => listed.getD i false) ops.size) w →
      TRel g n (Tc ops T0 vs (fun i => listed.getD i false) ops.size) a.tmps → a.defers = ds → Q .normal a w := by
    intro listed g w a hsz hr hg S hT hd
    have hall : ∀ i, i < ops.size → listed.getD i false = true := by
      intro i
      induction i using Nat.strongRecOn with
      | _ i ih =>
        intro hi
        cases hl : listed.getD i false with
        | true => rfl
        | false =>
          exfalso
          have hmem : i ∈ Region.ready .any ops listed := by
            rw [mem_ready]
            have ho : ops[i]? = some ops[i] := Array.getElem?_eq_getElem hi
            refine ⟨?_, ops[i], ho, fun e he hb => ?_⟩
            · rw [Array.getD_eq_getD_getElem?, Array.getElem?_eq_getElem (by omega), Option.getD_some] at hl ⊢
              exact hl
            · have := D.back i _ ho e he hb
              exact ih e.on this (by omega)
          rw [hr] at hmem
          cases hmem
    have eT : Tc ops T0 vs (fun i => listed.getD i false) ops.size = Ts ops.size := by
      funext t
      exact Tc_upto t0 hst t ops.size (Nat.le_refl _) (fun j o hj _ _ => hall j hj)
    have eH : Hc H0 Hs W.ev (fun i => listed.getD i false) ops.size = Hs ops.size := Hc_upto h0 hst ops.size (Nat.le_refl _) (fun j hj _ => hall j hj)
    rw [eT] at hT
    rw [eH] at S
    exact hQ _ _ g w a hK hg S hT hd
  intro fuel
  induction fuel with
  | zero =>
    intro listed g w a hsz hcl hcnt hg S hT hd
    have hr : Region.ready .any ops listed = [] := by
      apply List.eq_nil_iff_forall_not_mem.2
      intro i hi
      rw [mem_ready] at hi
      obtain ⟨h1, o, ho, _⟩ := hi
      have hlt : i < ops.size := (Array.getElem?_eq_some_iff.1 ho).1
      have := hcnt [i] (by simp) (by
        intro j hj
        simp only [List.mem_singleton] at hj
        subst hj
        refine ⟨hlt, ?_⟩
        rw [Array.getD_eq_getD_getElem?, Array.getElem?_eq_getElem (by omega), Option.getD_some] at h1 ⊢
        exact h1)
      simp at this
    exact ⟨hr, alldone listed g w a hsz hr hg S hT hd⟩
  | succ fuel ih =>
    intro listed g w a hsz hcl hcnt hg S hT hd
    refine ⟨fun hr => alldone listed g w a hsz hr hg S hT hd, fun i hi => ?_⟩
    rw [mem_ready] at hi
    obtain ⟨hli0, o, ho, hedges⟩ := hi
    have hlt : i < ops.size := (Array.getElem?_eq_some_iff.1 ho).1
    have hli : listed.getD i false = false := by
      rw [Array.getD_eq_getD_getElem?, Array.getElem?_eq_getElem (by omega), Option.getD_some] at hli0 ⊢
      exact hli0
    -- what stands before i has been done
    have hanc : ∀ j, j < ops.size → (bs.getD i 0).testBit j = true → listed.getD j false = true := by
      intro j hj ht
      obtain ⟨e, he, hb, h | h⟩ := D.cert i j o ho hj ht
      · subst h; exact hedges e he hb
      · exact hcl e.on j (by have := D.back i o ho e he hb; omega) hj (hedges e he hb) h
    have hlater : ∀ j, j < ops.size → (bs.getD j 0).testBit i = true → listed.getD j false = false := by
      intro j hj ht
      cases hl : listed.getD j false with
      | false => rfl
      | true => rw [hcl j i hj hlt hl ht] at hli; cases hli
    have hslot : ∀ t, t ∈ o.looksAt ops → Tc ops T0 vs (fun i => listed.getD i false) ops.size t = Ts i t := by
      intro t ht
      have h1 := Tc_upto (L := fun i => listed.getD i false) (T0 := T0) t0 hst t i (by omega) (fun j x hj hx hxd => by
        rcases D.free j i x o hx ho hj with h | ⟨h, _⟩
        · exact hanc j (by omega) h
        · exact absurd ht ((Oper.apart_spec h).1 t hxd))
      have h2 := Tc_from (ops := ops) (T0 := T0) (vs := vs) (L := fun i => listed.getD i false) t i (ops.size - i) (fun j x hj hj' hx hxd => by
        rcases Nat.eq_or_lt_of_le hj with rfl | hj
        · exact hli
        · rcases D.free i j o x ho hx hj with h | ⟨h, _⟩
          · exact hlater j (by omega) h
          · exact absurd ht ((Oper.apart_spec h).2.2 t hxd))
      rw [show i + (ops.size - i) = ops.size by omega] at h2
      rw [h2, h1]
    have hheap : (W.ev i = true ∨ (isP mu o || W.rf i) = false) → Hc H0 Hs W.ev (fun i => listed.getD i false) ops.size = Hs i := by
      intro hc
      have h1 := Hc_upto (L := fun i => listed.getD i false) h0 hst i (by omega) (fun j hj hev => by
        have hx : ops[j]? = some ops[j] := Array.getElem?_eq_getElem (by omega)
        rcases D.free j i _ o hx ho hj with h | ⟨_, h⟩
        · exact hanc j (by omega) h
        · rcases hc with hc | hc <;> simp [confl, hev, hc] at h)
      have h2 := Hc_from (H0 := H0) (Hs := Hs) (W := W) (L := fun i => listed.getD i false) i (ops.size - i) (fun j hj hj' hev => by
        rcases Nat.eq_or_lt_of_le hj with rfl | hj
        · exact hli
        · have hx : ops[j]? = some ops[j] := Array.getElem?_eq_getElem (by omega)
          rcases D.free i j o _ ho hx hj with h | ⟨_, h⟩
          · exact hlater j (by omega) h
          · rcases hc with hc | hc <;> simp [confl, hev, hc] at h)
      rw [show i + (ops.size - i) = ops.size by omega] at h2
      rw [h2, h1]
    obtain ⟨hdst, hput, b, hgd, hyes, hno⟩ := hst i o ho
    have hops : ∀ x ∈ o.op.operands, evA (Ts i) x = evA (Tc ops T0 vs (fun i => listed.getD i false) ops.size) x := by
      intro x hx
      refine evA_congr fun t e => ?_
      subst e
      exact (hslot t (List.mem_append_left _ (List.mem_filterMap.2 ⟨.tmp t, by simpa using hx, rfl⟩))).symm
    have hgd' : guardA (ops.toList.map (·.dst)) o.guard (Tc ops T0 vs (fun i => listed.getD i false) ops.size) = some b := by
      rw [← hgd]
      cases hgu : o.guard with
      | none => rfl
      | some p =>
        obtain ⟨j, want⟩ := p
        simp only [guardA]
        cases hq : (ops.toList.map (·.dst))[j]? with
        | none => rfl
        | some q =>
          cases q with
          | none => rfl
          | some s =>
            have hs := (hdsts j s hq).1
            simp only
            rw [hslot s (List.mem_append_right _ (by rw [hgu]; simp [hs]))]
    have hwant := guardA_wanted2 (ops := ops) hT hdsts hgd'
    -- the listed ones, with i
    have hset : ∀ j, (listed.setIfInBounds i true).getD j false = setL (fun i => listed.getD i false) i j := by
      intro j
      unfold setL
      by_cases hj : j = i
      · subst hj
        rw [if_pos rfl, Array.getD_eq_getD_getElem?, Array.getElem?_setIfInBounds, if_pos rfl, if_pos (by omega)]
        rfl
      · rw [if_neg hj, getD_set_ne _ (Ne.symm hj)]
    have hsetf : (fun j => (listed.setIfInBounds i true).getD j false) = setL (fun i => listed.getD i false) i := funext hset
    have hTc : Tc ops T0 vs (setL (fun i => listed.getD i false) i) ops.size = putA (Tc ops T0 vs (fun i => listed.getD i false) ops.size) o.dst (vs i) := by
      funext t
      have h1 := Tc_setL (T0 := T0) (vs := vs) (L := fun i => listed.getD i false) ho hli t (ops.size - (i + 1)) (fun j x hj hj' hx hl hod hxd => by
        rcases D.free i j o x ho hx hj with h | ⟨h, _⟩
        · have h2 := hlater j (by omega) h
          have hl : listed.getD j false = true := hl
          rw [h2] at hl; cases hl
        · exact (Oper.apart_spec h).2.1 t hod hxd)
      rw [show i + 1 + (ops.size - (i + 1)) = ops.size by omega] at h1
      rw [h1]
      by_cases hod : o.dst = some t
      · rw [if_pos hod, hod, putA_eq]
      · rw [if_neg hod, putA_ne hod]
    have hHc : Hc H0 Hs W.ev (setL (fun i => listed.getD i false) i) ops.size = if W.ev i then Hs (i + 1) else Hc H0 Hs W.ev (fun i => listed.getD i false) ops.size := by
      have h1 := Hc_setL (H0 := H0) (Hs := Hs) (W := W) (L := fun i => listed.getD i false) hli (ops.size - (i + 1)) (fun j hj hj' hl hei => by
        have hx : ops[j]? = some ops[j] := Array.getElem?_eq_getElem (by omega)
        rcases D.free i j o _ ho hx hj with h | ⟨_, h⟩
        · have h2 := hlater j (by omega) h
          have hl : listed.getD j false = true := hl
          rw [h2] at hl; cases hl
        · cases hej : W.ev j with
          | false => rfl
          | true => simp [confl, hei, hej] at h)
      rw [show i + 1 + (ops.size - (i + 1)) = ops.size by omega] at h1
      exact h1
    have hcl' : ∀ k j, k < ops.size → j < ops.size → (listed.setIfInBounds i true).getD k false = true → (bs.getD k 0).testBit j = true → (listed.setIfInBounds i true).getD j false = true := by
      intro k j hk hj hl ht
      rw [hset] at hl ⊢
      unfold setL at hl ⊢
      by_cases hji : j = i
      · rw [if_pos hji]
      · rw [if_neg hji]
        by_cases hki : k = i
        · subst hki; exact hanc j hj ht
        · rw [if_neg hki] at hl; exact hcl k j hk hj hl ht
    have hcnt' : ∀ S : List Nat, S.Nodup → (∀ k ∈ S, k < ops.size ∧ (listed.setIfInBounds i true).getD k false = false) → S.length ≤ fuel := by
      intro S hS hk
      have := hcnt (i :: S) (List.nodup_cons.2 ⟨fun hm => by have := (hk i hm).2; rw [hset] at this; simp [setL] at this, hS⟩) (fun k hkm => by
        rcases List.mem_cons.1 hkm with rfl | hkm
        · exact ⟨hlt, hli⟩
        · have h1 := hk k hkm
          refine ⟨h1.1, ?_⟩
          have h2 := h1.2
          rw [hset] at h2
          unfold setL at h2
          by_cases hki : k = i
          · rw [if_pos hki] at h2; cases h2
          · rw [if_neg hki] at h2; exact h2)
      simp at this
      omega
    have hdef : ∀ z, (a.put o.dst z).defers = ds := by intro z; rw [← hd]; cases o.dst <;> rfl
    have go : ∀ z H' g' w', H' = (if W.ev i then Hs (i + 1) else Hc H0 Hs W.ev (fun i => listed.getD i false) ops.size) → g.le g' → Sim base w0 g' H' w' → R g' (vs i) z →
        wpAnyIn (FR r) 0 P .any ops Q fuel (listed.setIfInBounds i true) (a.put o.dst z) w' := by
      intro z H' g' w' hH hg' S' hR
      refine ih _ g' w' _ (by simpa using hsz) hcl' hcnt' (hg.trans hg') ?_ ?_ (hdef z)
      · rw [hsetf, hHc, ← hH]; exact S'
      · rw [hsetf, hTc]; exact (hT.mono hg').put hdst hR
    unfold wpOpIn
    rw [ho]
    simp only
    cases b with
    | true =>
      rw [if_pos hwant]
      obtain ⟨hp, hsame⟩ := hyes rfl
      have hp' := hp.congr hops
      have hperf : PerfTo P mu o (Tc ops T0 vs (fun i => listed.getD i false) ops.size) (Hc H0 Hs W.ev (fun i => listed.getD i false) ops.size) (vs i) (if W.ev i then Hs (i + 1) else Hc H0 Hs W.ev (fun i => listed.getD i false) ops.size) := by
        cases hev : W.ev i with
        | true =>
          rw [if_pos rfl, hheap (.inl hev)]
          exact hp'
        | false =>
          rw [if_neg (by simp)]
          cases hpp : isP mu o with
          | true => exact hp'.any hpp _
          | false =>
            cases hrf : W.rf i with
            | true => exact (hsame.2.2 hrf _ (Hc_agree h0 hst _ (Nat.le_refl _) i (by omega))).congr hops
            | false =>
              rw [hheap (.inr (by rw [hpp, hrf]; rfl))]
              rw [hsame.1 hev] at hp'
              exact hp'
      refine hperf.ok base w0 g w a r S (fun x _ => evA_rel hT x) _ _ (fun v z H' g' w' hk hg' S' hR => ?_)
      obtain ⟨rfl, rfl⟩ := hk
      exact go z _ g' w' rfl hg' S' hR
    | false =>
      rw [if_neg (by rw [hwant]; simp)]
      obtain ⟨hv, hH⟩ := hno rfl
      refine ⟨fun _ _ => trivial, ?_⟩
      refine go undef _ g w ?_ (Gh.le.refl g) S (by rw [hv]; exact .val _)
      cases hev : W.ev i with
      | true => rw [if_pos rfl, hH]; exact hheap (.inl hev)
      | false => rw [if_neg (by simp)]

/-- a region that draws its order -/
theorem Awp.drawn {n : Nat} {rd : Option Nat} {T : Env} {Q : Exit → Env → Hp → Prop} {id : Nat} {ops : Array Oper} (hm : P.follows .mixedOrders = true) (mu : Nat → Bool) (W : Draw) (bs : List Nat) (hok : drawOk mu W ops bs = true)
    (h : wpO P mu n (some W) [] ops.toList T H (Q .normal)) : Awp P n rd (.region id ops true) T H Q := by
  intro base w0 g w a r S hT hr
  refine wpIn_region_any hm ?_
  obtain ⟨Ts, Hs, vs, t0, h0, hK, hst⟩ := trace_of _ _ _ _ h
  have hst' : ∀ (i : Nat) (o : Oper), ops[i]? = some o → StepR P mu n W i (ops.toList.map (·.dst)) o (Ts i) (Hs i) (vs i) (Ts (i + 1)) (Hs (i + 1)) := by
    intro i o ho
    have := hst i o (by simpa using ho)
    simpa using this
  have hT0 : ∀ m, Tc ops T vs (fun i => (Array.replicate ops.size false).getD i false) m = T := by
    intro m
    induction m with
    | zero => rfl
    | succ m ih =>
      show (if (Array.replicate ops.size false).getD m false = true then _ else _) = T
      rw [if_neg (by rw [Array.getD_eq_getD_getElem?, Array.getElem?_replicate]; split <;> simp), ih]
  have hH0 : ∀ m, Hc H Hs W.ev (fun i => (Array.replicate ops.size false).getD i false) m = H := by
    intro m
    induction m with
    | zero => rfl
    | succ m ih =>
      show (if ((Array.replicate ops.size false).getD m false && W.ev m) = true then _ else _) = H
      rw [if_neg (by rw [Array.getD_eq_getD_getElem?, Array.getElem?_replicate]; split <;> simp), ih]
  have hrep : ∀ i, (Array.replicate ops.size false).getD i false = false := by
    intro i
    rw [Array.getD_eq_getD_getElem?, Array.getElem?_replicate]; split <;> rfl
  refine any_sound (base := base) (w0 := w0) (n := n) (K := Q .normal) (g0 := g) (ds := a.defers) (drawOk_spec hok) t0 h0 hst' (by simpa using hK) ?_ ops.size _ g _ a (by simp) (fun i j _ _ hl _ => by rw [hrep] at hl; cases hl) (fun S hS hk => ?_) (Gh.le.refl g)
    (by rw [hH0]; exact S.drew) (by rw [hT0]; exact hT) rfl
  · exact fun T' H' g' w' a' hk hg S' hT' hd => ⟨T', H', g', [], hk, hg, S', hT', hd, Marks.nil _ _⟩
  · exact nodup_le _ S hS fun k hkm => (hk k hkm).1

end Go.Proofs.Ytehagceghnjamaa.Ab
namespace Go.Proofs.Ytehagceghnjamaa.Ab
open Go Go.RowKit

variable {base : Nat} {w0 w w' : World} {g : Gh} {H : Hp} {P : Program}

/-! ### results -/

def resV (P : Program) (T : Env) (H : Hp) : ResultVar → Option AV
  | .tmp t => some (T t)
  | .cell a t => match T a with
    | .rptr cs off => loadA P t cs off
    | .mptr b i off => match H[b]? with
      | some (.cells es _) => match es[i]? with
        | some e => loadA P t e off
        | none => none
      | _ => none
    | _ => none

def resL (P : Program) (T : Env) (H : Hp) : List ResultVar → Option (List AV)
  | [] => some []
  | r :: rs => match resV P T H r, resL P T H rs with
    | some v, some vs => some (v :: vs)
    | _, _ => none

def oneOf : List AV → AV
  | [v] => v
  | vs => .tup vs

def resSem (tmps : Array Value) : ResultVar → Sem Value
  | .tmp t => pure (tmps.getD t undef)
  | .cell a t => do loadVar t (← asAddr (tmps.getD a undef))

theorem resV_run (S : Sim base w0 g H w) {n : Nat} {T : Env} {tmps : Array Value} (hT : TRel g n T tmps) {r : ResultVar} {v : AV} (h : resV P T H r = some v) :
    ∃ z, (resSem tmps r).run P w = .ok z w ∧ R g v z := by
  cases r with
  | tmp t =>
    simp only [resV, Option.some.injEq] at h
    subst h
    exact ⟨_, rfl, hT.slot t⟩
  | cell x t =>
    have hx := hT.slot x
    have fin : ∀ z, (∃ ad : Addr, tmps.getD x undef = .pointer (some ad)) → (Instr.loadAt t (tmps.getD x undef)).run P w = .ok z w → (resSem tmps (.cell x t)).run P w = .ok z w := by
      rintro z ⟨ad, hu⟩ h1
      rw [hu] at h1
      show (do loadVar t (← asAddr (tmps.getD x undef)) : Sem Value).run P w = _
      rw [hu]
      exact h1
    simp only [resV] at h
    split at h
    · rename_i cs off e
      rw [e] at hx
      have hp : ∃ ad : Addr, tmps.getD x undef = .pointer (some ad) := by generalize tmps.getD x undef = u at hx; cases hx; exact ⟨_, rfl⟩
      obtain ⟨z, h1, h2⟩ := loadA_run (w := w) (g := g) h (tmps.getD x undef) hp (fun j c hc => R.rptr_cell S hx hc)
      exact ⟨z, fin z hp h1, h2⟩
    · rename_i b i off e
      rw [e] at hx
      have hp : ∃ ad : Addr, tmps.getD x undef = .pointer (some ad) := by generalize tmps.getD x undef = u at hx; cases hx; exact ⟨_, rfl⟩
      split at h
      · rename_i es t' hb
        split at h
        · rename_i e' he
          obtain ⟨z, h1, h2⟩ := loadA_run (w := w) (g := g) h (tmps.getD x undef) hp (fun j c hc => R.mptr_cell S hx hb he hc)
          exact ⟨z, fin z hp h1, h2⟩
        · cases h
      · cases h
    · cases h

theorem resL_run (S : Sim base w0 g H w) {n : Nat} {T : Env} {tmps : Array Value} (hT : TRel g n T tmps) : ∀ (rs : List ResultVar) (vs : List AV), resL P T H rs = some vs →
    ∃ zs : List Value, (rs.mapM (resSem tmps)).run P w = .ok zs w ∧ RCells g vs zs.toArray
  | [], vs, h => by
    simp only [resL, Option.some.injEq] at h
    subst h
    exact ⟨[], rfl, rfl, by simp⟩
  | r :: rs, vs, h => by
    simp only [resL] at h
    split at h
    · rename_i v vs' h1 h2
      cases h
      obtain ⟨z, k1, k2⟩ := resV_run S hT h1
      obtain ⟨zs, k3, k4⟩ := resL_run S hT rs vs' h2
      refine ⟨z :: zs, ?_, by simpa using k4.size, fun i c u hc hu => ?_⟩
      · rw [List.mapM_cons, Sem.run_bind, k1]
        simp only [Result.andThen_ok, Sem.run_bind]
        rw [k3]
        rfl
      · cases i with
        | zero => simp at hc hu; subst hc; subst hu; exact k2
        | succ i => exact k4.cell i c u (by simpa using hc) (by simpa using hu)
    · cases h

theorem results_run (S : Sim base w0 g H w) {n : Nat} {T : Env} {tmps : Array Value} (hT : TRel g n T tmps) {fn : Func} {vs : List AV} (h : resL P T H fn.results.toList = some vs) :
    ∃ z, (results fn tmps).run P w = .ok z w ∧ R g (oneOf vs) z := by
  obtain ⟨zs, h1, h2⟩ := resL_run S hT fn.results.toList vs h
  have hrun : (results fn tmps).run P w = .ok (if h : zs.toArray.size = 1 then zs.toArray[0] else .tuple zs.toArray) w := by
    show (do let vs ← fn.results.mapM (resSem tmps); pure (if h : vs.size = 1 then vs[0] else .tuple vs) : Sem Value).run P w = _
    rw [Array.mapM_eq_mapM_toList, Sem.run_bind, Sem.run_map, h1]
    rfl
  refine ⟨_, hrun, ?_⟩
  have hsz := h2.size
  cases vs with
  | nil =>
    rw [dif_neg (by simp at hsz; simp [← hsz])]
    exact .tup h2.size h2.cell
  | cons v vs =>
    cases vs with
    | nil =>
      have h1' : zs.toArray.size = 1 := by simpa using hsz.symm
      rw [dif_pos h1']
      exact h2.cell 0 v _ rfl (Array.getElem?_eq_getElem (by omega))
    | cons u us =>
      rw [dif_neg (by simp at hsz; simp; omega)]
      exact .tup h2.size h2.cell

/-! ### the marks are taken -/

theorem Sim.take {r : Nat} (S : Sim base w0 g H w) (hr : g.mr r) : ∃ g' w', (Instr.takeDeferred r).run P w = .ok [] w' ∧ g.same g' ∧ (∀ x, g'.mr x ↔ g.mr x ∧ x ≠ r) ∧ Sim base w0 g' H w' := by
  obtain ⟨h1, h2, h3⟩ := S.marks r hr
  refine ⟨{ g with mr := fun x => g.mr x ∧ x ≠ r }, _, run_takeDeferred h3, ⟨rfl, rfl, rfl, rfl⟩, fun _ => Iff.rfl, ?_⟩
  have hsame : g.same { g with mr := fun x => g.mr x ∧ x ≠ r } := ⟨rfl, rfl, rfl, rfl⟩
  have hoth : ∀ k, k ≠ r → (w.putObj r (.deferred none)).heap[k]? = w.heap[k]? := by
    intro k hk
    simp only [World.putObj]
    rw [Array.getElem?_setIfInBounds_ne (by omega)]
  have hsz : (w.putObj r (.deferred none)).heap.size = w.heap.size := by simp [World.putObj]
  have hnr : ∀ b o v, g.fz b o = some v → b ≠ r := by
    rintro b o v hv rfl
    have := S.fz b o v hv
    simp [World.cell?, h3] at this
  exact
  { below := S.below.trans ⟨rfl, rfl, rfl, by rw [hsz]; exact Nat.le_refl _, fun k hk => hoth k (by omega)⟩
    low := by rw [hsz]; exact S.low
    fz := fun b o v hv => (World.cell?_of_block (a := ⟨b, o, none⟩) (hoth b (hnr b o v hv))).trans (S.fz b o v hv)
    dom := S.dom
    pos := fun b x hx => by rw [hsz]; exact S.pos b x hx
    sep := fun b x ob hb hn hx => ⟨(S.sep b x ob hb hn hx).1, fun h => (S.sep b x ob hb hn hx).2 h.1⟩
    inj := S.inj
    obj := fun b ob hb hn => by
      obtain ⟨x, o, k1, k2, k3⟩ := S.obj b ob hb hn
      refine ⟨x, o, k1, (hoth x (fun e => ?_)).trans k2, k3.same hsame⟩
      subst e
      exact (S.sep b x ob hb hn k1).2 hr
    marks := fun x hx => by
      obtain ⟨k1, k2, k3⟩ := S.marks x hx.1
      exact ⟨k1, by rw [hsz]; exact k2, (hoth x hx.2).trans k3⟩ }

theorem leaves_marks {fn : Func} {n : Nat} {T : Env} {tmps : Array Value} {R0 : Ending → World → Prop} {gi : Gh}
    (hfin : ∀ g w, gi.le g → Sim base w0 g H w → TRel g n T tmps → ∃ v, (results fn tmps).run P w = .ok v w ∧ R0 (.returned v) w) :
    ∀ (ds : List Deferred) (g : Gh) (w : World), Sim base w0 g H w → TRel g n T tmps → gi.le g → Marks gi g ds → LeavesInM Fence.wide 0 P fn tmps R0 ds .returning w
  | [], g, w, S, hT, hg, _ => hfin g w hg S hT
  | d :: ds, g, w, S, hT, hg, hm => by
    obtain ⟨r, rfl, h1, h2⟩ := hm.mark d (by simp)
    obtain ⟨g', w', k1, k2, k3, k4⟩ := S.take (P := P) h1
    have hg' : gi.le g' := ⟨fun b o v h => by rw [k2.fz]; exact hg.fz b o v h, fun b x h => by rw [k2.ph]; exact hg.ph b x h, fun b x h => by rw [k2.ks]; exact hg.ks b x h,
      fun b x h => by rw [k2.cp]; exact hg.cp b x h, fun x h => (k3 x).2 ⟨hg.mr x h, fun e => by subst e; exact h2 h⟩⟩
    refine ⟨by simp, .inl ⟨r, w', rfl, k1, ?_⟩⟩
    refine leaves_marks hfin ds g' w' k4 (hT.same k2) hg' ⟨fun e he => ?_, hm.nodup.tail⟩
    obtain ⟨s, rfl, l1, l2⟩ := hm.mark e (by simp [he])
    refine ⟨s, rfl, (k3 s).2 ⟨l1, fun hs => ?_⟩, l2⟩
    subst hs
    have := (List.pairwise_cons.1 hm.nodup).1 _ he
    simp at this

/-! ### a function -/

def env0 (args : List AV) : Env := fun t => args.getD t (.val undef)

def bodyQ (P : Program) (fn : Func) (H0 : Hp) (Post : AV → Hp → Prop) : Exit → Env → Hp → Prop := fun e T H =>
  (e = .normal ∨ e = .ret) ∧ ∃ vs a H', resL P T H fn.results.toList = some vs ∧ Vs H0 (oneOf vs) H a H' ∧ Post a H'

theorem ACalls.of_body {f : FuncId} {fn : Func} {c : Code} {args : List AV} {Post : AV → Hp → Prop} (hf : P.funcs[f]? = some fn) (hb : fn.body = some c) (hcl : callable P f = true) (hl : args.length ≤ fn.ntmps)
    (h : Awp P fn.ntmps none c (env0 args) H (bodyQ P fn H Post)) : ACalls P f args H Post := by
  refine ⟨hcl, fun base w0 g w vs S hr => ?_⟩
  refine callsIn_of_wp_marks hf hb trivial ?_ rfl
  have hsz := hr.size
  have hT : TRel g fn.ntmps (env0 args) (vs ++ Array.replicate (fn.ntmps - vs.size) undef) := by
    refine ⟨by simp; omega, fun t => ?_⟩
    rw [Array.getD_eq_getD_getElem?, Array.getElem?_append]
    unfold env0
    by_cases ht : t < vs.size
    · rw [if_pos ht, Array.getElem?_eq_getElem ht, Option.getD_some, List.getD_eq_getElem?_getD, List.getElem?_eq_getElem (by omega), Option.getD_some]
      exact hr.cell t _ _ (List.getElem?_eq_getElem (by omega)) (Array.getElem?_eq_getElem ht)
    · rw [if_neg ht, List.getD_eq_getElem?_getD, List.getElem?_eq_none (by omega), Option.getD_none]
      have : ((Array.replicate (fn.ntmps - vs.size) undef)[t - vs.size]?).getD undef = undef := by
        rw [Array.getElem?_replicate]; split <;> rfl
      rw [this]
      exact .val _
  have hw := h base w0 g w { tmps := vs ++ Array.replicate (fn.ntmps - vs.size) undef, defers := [] } none S hT trivial
  refine (wpIn_mono hw fun e a' w' ⟨T', H', g', ds, ⟨he, us, a, H'', h1, h2, h3⟩, h4, h5, h6, h7, h8⟩ => ?_ : Code.wpIn Fence.wide 0 P c _ _ w)
  have hd : a'.defers = ds := by rw [h7]; simp
  have hleave : LeavesInM Fence.wide 0 P fn a'.tmps (fun e w' => ∃ v a H' g', e = .returned v ∧ Post a H' ∧ g.le g' ∧ Sim base w0 g' H' w' ∧ R g' a v) a'.defers .returning w' := by
    rw [hd]
    refine leaves_marks (n := fn.ntmps) (T := T') (gi := g) (fun g2 w2 k1 k2 k3 => ?_) ds g' w' h5 h6 h4 h8
    obtain ⟨z, k4, k5⟩ := results_run k2 k3 h1
    have hbel : ∀ (b : Nat) (ob : AObj), H[b]? = some ob → ob ≠ .dead → BelO H.length ob := by
      intro b ob hb hn
      obtain ⟨x, o, _, _, h3⟩ := S.obj b ob hb hn
      exact h3.bel S.dom
    obtain ⟨g3, k6, k7, k8⟩ := h2 base w0 g g2 w2 z S.dom hbel k1 k2 k5
    exact ⟨z, k4, z, a, H'', g3, rfl, h3, k6, k7, k8⟩
  rcases he with rfl | rfl
  · exact hleave
  · exact hleave

/-! ### what was made never turns again -/

theorem freeze_R (S : Sim base w0 g H w) {b y : Nat} {es : List (List AV)} {t : TypeId} (hb : H[b]? = some (.cells es t)) (hy : g.ph b = some y) :
    ∃ g', g.le g' ∧ Sim base w0 g' (H.set b .dead) w ∧ ∀ off len x, off + len ≤ es.length → R g (.msl b off len) x → R g' (.rsl ((es.drop off).take len) false) x := by
  obtain ⟨z, o, h1, h2, h3⟩ := S.obj b _ hb (by simp)
  rw [hy] at h1; cases h1
  cases h3 with
  | cells hs hl hk hr =>
    rename_i cur
    refine ⟨_, S.freeze_le hb (by simp) hy (es.length * g.ks b) cur, S.freeze hb (by simp) hy h2, fun off len x hfit hR => ?_⟩
    have hle := S.freeze_le hb (by simp) hy (es.length * g.ks b) cur
    cases hR with
    | msl hx hl' hc hm =>
      rename_i x cap
      rw [hy] at hx; cases hx
      have hln : ((es.drop off).take len).length = len := by simp; omega
      have hget : ∀ (i : Nat) (e : List AV), ((es.drop off).take len)[i]? = some e → i < len ∧ es[off + i]? = some e := by
        intro i e he
        rw [List.getElem?_take] at he
        split at he
        · rw [List.getElem?_drop] at he; exact ⟨by assumption, he⟩
        · cases he
      refine R.rsl (k := g.ks b) (fun i j => cur[(off + i) * g.ks b + j]?.getD undef) hln.symm hl' (by simp) hm (fun i e he => hk _ e (hget i e he).2) (fun i j hi hj => ?_) (fun i e j c he hc => ?_)
      · rw [hln] at hi
        show (if y = y then (if off * g.ks b + i * g.ks b + j < es.length * g.ks b then cur[off * g.ks b + i * g.ks b + j]? else none) else _) = _
        have hlt := idx_lt (show off + i < es.length by omega) hj
        have e0 := Nat.add_mul off i (g.ks b)
        rw [if_pos rfl, if_pos (by omega), ← e0]
        have hc2 := Nat.mul_le_mul_right (g.ks b) hl
        have : (off + i) * g.ks b + j < cur.size := by omega
        simp [this]
      · obtain ⟨hi, he'⟩ := hget i e he
        obtain ⟨v, k1, k2⟩ := hr _ e j c he' hc
        simp only [k1, Option.getD_some]
        exact k2.mono hle

theorem Vs.freeze {H0 : Hp} {b off len : Nat} {es : List (List AV)} {t : TypeId} (hb : H[b]? = some (.cells es t)) (hfit : off + len ≤ es.length) :
    Vs H0 (.msl b off len) H (.rsl ((es.drop off).take len) false) (H.set b .dead) := by
  intro base w0 g0 g w x _ _ hg S hR
  have hR' := hR
  cases hR with
  | msl hx hl hc hm =>
    obtain ⟨g', h1, h2, h3⟩ := freeze_R S hb hx
    exact ⟨g', hg.trans h1, h2, h3 off len _ hfit hR'⟩

theorem Vs.freeze_tup {H0 : Hp} {cs : List AV} {i b off len : Nat} {es : List (List AV)} {t : TypeId} (hi : cs[i]? = some (.msl b off len)) (hb : H[b]? = some (.cells es t)) (hfit : off + len ≤ es.length) :
    Vs H0 (.tup cs) H (.tup (cs.set i (.rsl ((es.drop off).take len) false))) (H.set b .dead) := by
  intro base w0 g0 g w x _ _ hg S hR
  cases hR with
  | tup hl hr =>
    rename_i vs
    have hlt : i < vs.size := by rw [← hl]; exact (List.getElem?_eq_some_iff.1 hi).1
    have hRi := hr i _ vs[i] hi (Array.getElem?_eq_getElem hlt)
    have hRi' := hRi
    generalize hv : vs[i] = v at hRi hRi'
    cases hRi with
    | msl hx hl' hc hm =>
      obtain ⟨g', h1, h2, h3⟩ := freeze_R S hb hx
      refine ⟨g', hg.trans h1, h2, .tup (by simpa using hl) (fun j c u hc' hu => ?_)⟩
      rw [List.getElem?_set] at hc'
      split at hc'
      · rename_i e
        subst e
        split at hc'
        · cases hc'
          rw [Array.getElem?_eq_getElem hlt, hv] at hu
          cases hu
          exact h3 off len _ hfit hRi'
        · cases hc'
      · exact (hr j c u hc' hu).mono h1

end Go.Proofs.Ytehagceghnjamaa.Ab
namespace Go.Proofs.Ytehagceghnjamaa.Ab
open Go Go.RowKit

variable {base : Nat} {w0 w w' : World} {g : Gh} {H : Hp} {P : Program}

theorem grownBy_put (w : World) (x : Nat) (o : Obj) : w.grownBy (w.putObj x o) (some x) :=
  ⟨rfl, rfl, rfl, by simp [World.putObj], fun k _ hk => by simp only [World.putObj]; rw [Array.getElem?_setIfInBounds_ne (fun e => hk (by rw [e]))]⟩

theorem heap_put {w : World} {x : Nat} {o : Obj} (h : x < w.heap.size) : (w.putObj x o).heap[x]? = some o := by
  simp [World.putObj, h]

theorem run_getLoop {l : Nat} {r : Loop} (h : w.heap[l]? = some (.loop r)) : (Instr.getLoop l).run P w = .ok r w := by
  simp [Instr.getLoop, getObj, Sem.run, h]

theorem run_setObj {l : Nat} {r : Loop} {o : Obj} (h : w.heap[l]? = some (.loop r)) : (setObj l o).run P w = .ok () (w.putObj l o) := by
  simp [setObj, Sem.run, h, World.putObj]

/-- a loop's record turns -/
theorem Sim.loop (S : Sim base w0 g H w) {b : Nat} {st st' : LoopState} {pend pend' : Option Code} {f : FuncId} {T : Env} {n : Nat} {ps : Array Tmp} {assign body : Code} {D : Nat}
    (hb : H[b]? = some (.loop st pend f T n ps assign body D)) : ∃ (l : Nat) (tmps : Array Value), g.ph b = some l ∧ l < w.heap.size ∧ TRel g n T tmps ∧ w.heap[l]? = some (.loop { state := st, pending := pend, fn := f, tmps, params := ps, assign, body, defers := D }) ∧
      Sim base w0 g (H.set b (.loop st' pend' f T n ps assign body D)) (w.putObj l (.loop { state := st', pending := pend', fn := f, tmps, params := ps, assign, body, defers := D })) := by
  obtain ⟨l, o, h1, h2, h3⟩ := S.obj b _ hb (by simp)
  cases h3 with
  | loop hT =>
    rename_i tmps
    have hlt := (S.pos b l h1).2
    exact ⟨l, tmps, h1, hlt, hT, h2, S.turn hb (by simp) h1 (grownBy_put w l _) (heap_put hlt) (.loop hT)⟩

def setPs (T : Env) (l : List (Nat × AV)) : Env := l.foldl (fun T p => upd T p.1 p.2) T

theorem setPs_rel {n : Nat} : ∀ (ps : List Nat) (as : List AV) (us : List Value) (T : Env) (tmps : Array Value), ps.length = as.length → as.length = us.length → (∀ (i : Nat) (a : AV) (u : Value), as[i]? = some a → us[i]? = some u → R g a u) →
    (∀ p ∈ ps, p < n) → TRel g n T tmps → TRel g n (setPs T (ps.zip as)) ((ps.zip us).foldl (fun t (p, v) => t.setIfInBounds p v) tmps)
  | [], as, us, T, tmps, h1, h2, _, _, hT => by
    cases as with
    | nil => cases us with
      | nil => exact hT
      | cons _ _ => simp at h2
    | cons _ _ => simp at h1
  | p :: ps, as, us, T, tmps, h1, h2, hr, hp, hT => by
    cases as with
    | nil => simp at h1
    | cons a as =>
      cases us with
      | nil => simp at h2
      | cons u us =>
        refine setPs_rel ps as us _ _ (by simpa using h1) (by simpa using h2) (fun i a u ha hu => hr (i + 1) a u (by simpa using ha) (by simpa using hu)) (fun q hq => hp q (by simp [hq])) ?_
        have := TRel.put (a := { tmps, defers := [] }) (dst := some p) hT (by simpa [dstOk] using hp p (by simp)) (hr 0 a u rfl rfl)
        exact this

def roundQ (b : Nat) (H0 : Hp) (Post : AV → Hp → Prop) : Exit → Env → Hp → Prop := fun e _ H =>
  ∃ st pend f T n ps assign body D, H[b]? = some (.loop st pend f T n ps assign body D) ∧
    match e with
    | .normal => ∃ H2, Vs H0 (.val (.bool true)) (H.set b (.loop .ready none f T n ps assign body D)) (.val (.bool true)) H2 ∧ Post (.val (.bool true)) H2
    | .ret => ∃ H2, Vs H0 (.val (.bool false)) (H.set b (.loop .done (some .ret) f T n ps assign body D)) (.val (.bool false)) H2 ∧ Post (.val (.bool false)) H2
    | .exit id => ∃ H2, Vs H0 (.val (.bool false)) (H.set b (.loop .done (some (.exit id)) f T n ps assign body D)) (.val (.bool false)) H2 ∧ Post (.val (.bool false)) H2
    | .goto t => ∃ H2, Vs H0 (.val (.bool false)) (H.set b (.loop .done (some (.goto t)) f T n ps assign body D)) (.val (.bool false)) H2 ∧ Post (.val (.bool false)) H2
    | _ => False

/-- a round, out of the loop's body -/
theorem AYield.of_body {b : Nat} {pend : Option Code} {f : FuncId} {T : Env} {n : Nat} {ps : Array Tmp} {assign body : Code} {D : Nat} {args : List AV} {Post : AV → Hp → Prop}
    (hb : H[b]? = some (.loop .ready pend f T n ps assign body D)) (hl : args.length = ps.size) (hps : ∀ p ∈ ps.toList, p < n)
    (h : Awp P n (some b) assign (setPs T (ps.toList.zip args)) H (fun e T1 H1 => e = .normal ∧ ∃ pend f T n' ps assign body' D, H1[b]? = some (.loop .ready pend f T n' ps assign body' D) ∧
      Awp P n (some b) body T1 (H1.set b (.loop .busy pend f T n' ps assign body' D)) (roundQ b H Post))) : AYield P b args H Post := by
  intro base w0 g w vs l S hr hph
  obtain ⟨l', tmps, h1, h2, hT, h3, -⟩ := S.loop (st' := .ready) (pend' := none) hb
  rw [hph] at h1; cases h1
  have hsz := hr.size
  refine ⟨f, (ps.zip vs).foldl (fun tmps (t, a) => tmps.setIfInBounds t a) tmps, assign, body, ?_, roundIn_of_wpIn (F := Fence.wide) (n := 0) trivial ?_⟩
  · unfold Instr.yield
    rw [Sem.run_bind, run_getLoop h3]
    simp only [Result.andThen_ok]
    rw [if_neg (by omega)]
    rfl
  · have hT' : TRel g n (setPs T (ps.toList.zip args)) ((ps.zip vs).foldl (fun tmps (t, a) => tmps.setIfInBounds t a) tmps) := by
      have := setPs_rel (g := g) (n := n) ps.toList args vs.toList T tmps (by simpa using hl.symm) (by simpa using hsz) (fun i a u ha hu => hr.cell i a u ha (by simpa using hu)) hps hT
      rw [← Array.foldl_toList, Array.toList_zip]
      exact this
    refine wpIn_mono (h base w0 g w { tmps := _, defers := [] } (some l) S hT' hph) fun e a1 w1 ⟨T1, H1, g1, ds, ⟨he, pend1, f1, TT, n1, ps1, as1, bd1, D1, hb1, hbody⟩, k1, k2, k3, k4, k5⟩ => ?_
    subst he
    obtain ⟨l1, tmps1, m1, m2, m3, m4, m5⟩ := k2.loop (st' := .busy) (pend' := pend1) hb1
    have : l1 = l := by have := k1.ph b l hph; rw [m1] at this; cases this; rfl
    subst this
    refine ⟨_, ?_, wpIn_mono (hbody base w0 g1 _ a1 (some l1) m5 k3 m1) fun e2 a2 w2 ⟨T2, H2, g2, ds2, ⟨st2, pend2, f2, TT2, n2, ps2, as2, bd2, D2, hb2, hpost⟩, j1, j2, j3, j4, j5⟩ => ?_⟩
    · unfold Instr.beginRound
      rw [Sem.run_bind, run_getLoop m4]
      simp only [Result.andThen_ok, Sem.run_bind, run_setObj m4, Sem.run_pure]
    · have hbel : ∀ (c : Nat) (ob : AObj), H[c]? = some ob → ob ≠ .dead → BelO H.length ob := by
        intro c ob hc hn
        obtain ⟨x, o, _, _, h3⟩ := S.obj c ob hc hn
        exact h3.bel S.dom
      have fin : ∀ (jump : Option Code), (∀ t : Bool, t = jump.isNone → ∃ H3, Vs H (.val (.bool t)) (H2.set b (.loop (if jump.isNone then .ready else .done) jump f2 TT2 n2 ps2 as2 bd2 D2)) (.val (.bool t)) H3 ∧ Post (.val (.bool t)) H3) →
          ∃ v w', (Instr.endRound l1 jump).run P w2 = .ok v w' ∧ ∃ v' a H' g', Ending.returned v = .returned v' ∧ Post a H' ∧ g.le g' ∧ Sim base w0 g' H' w' ∧ R g' a v' := by
        intro jump hp
        obtain ⟨l2, tmps2, q1, q2, q3, q4, q5⟩ := j2.loop (st' := if jump.isNone then .ready else .done) (pend' := jump) hb2
        have : l2 = l1 := by have := j1.ph b l1 m1; rw [q1] at this; cases this; rfl
        subst this
        obtain ⟨H3, hv, hpost⟩ := hp _ rfl
        obtain ⟨g3, r1, r2, r3⟩ := hv base w0 g g2 _ (.bool jump.isNone) S.dom hbel (k1.trans j1) q5 (.val _)
        refine ⟨.bool jump.isNone, _, ?_, .bool jump.isNone, .val (.bool jump.isNone), H3, g3, rfl, hpost, r1, r2, r3⟩
        unfold Instr.endRound
        rw [Sem.run_bind, run_getLoop q4]
        simp only [Result.andThen_ok, Sem.run_bind, run_setObj q4, Sem.run_pure]
      cases e2 with
      | normal => exact fin none (fun t ht => by subst ht; exact hpost)
      | ret => exact fin (some .ret) (fun t ht => by subst ht; exact hpost)
      | exit id => exact fin (some (.exit id)) (fun t ht => by subst ht; exact hpost)
      | goto t => exact fin (some (.goto t)) (fun t ht => by subst ht; exact hpost)
      | panic c => exact hpost
      | outgrown => exact hpost

def rangeQ (P : Program) (n : Nat) (rd : Option Nat) (T : Env) (b : Nat) (Q : Exit → Env → Hp → Prop) : AV → Hp → Prop := fun _ H2 =>
  ∃ st pend f T' n' ps assign body D, H2[b]? = some (.loop st pend f T' n' ps assign body D) ∧ st ≠ .busy ∧
    match pend with
    | none => Q .normal T (H2.set b .dead)
    | some c => Awp P n rd c T (H2.set b .dead) Q

theorem range_core {n : Nat} {rd : Option Nat} {T : Env} {Q : Exit → Env → Hp → Prop} {gop : Operand} {ps : Array Tmp} {assign body : Code} {H : Hp} {a : Act} {g g1 : Gh} {w1 : World} {r : Option Nat} {l D : Nat} {mark : List Deferred} {f : FuncId}
    (hg : g.le g1) (S : Sim base w0 g1 (H ++ [.loop .ready none f T n ps assign body D]) w1) (hT : TRel g n T a.tmps) (hr : rdOk g rd r) (hl : g1.ph H.length = some l) (hm : Marks g g1 mark)
    {k : FuncId} {cap : List AV} (e : evA T gop = .fn (.func k) cap) (h : ACalls P k ([.fn (.yield H.length) []] ++ cap) (H ++ [.loop .ready none f T n ps assign body D]) (rangeQ P n rd T H.length Q)) :
    ∃ (d : Deferred) (w₁' : World) (f : FuncId) (args : Array Value) (w₂ : World),
      (resolve a.eval (rangeCall gop l) 0).run P w1 = .ok d w₁' ∧ (∀ f', Target.leads P w₁' d.target d.args = some f' → (FR r).fn f') ∧
      (invoke d.target d.args).run P w₁' = .ok (.enter f args) w₂ ∧ ((FR r).depth.isSome = true → 1 ≤ 0) ∧
      CallsIn (FR r) (0 - 1) P f args w₂ (rangePost (FR r) 0 P l (fun e a' w' => ∃ T' H' g' ds, Q e T' H' ∧ g.le g' ∧ Sim base w0 g' H' w' ∧ TRel g' n T' a'.tmps ∧ a'.defers = ds ++ a.defers ∧ Marks g g' ds) { a with defers := mark ++ a.defers }) := by
  have hf := evA_rel hT gop
  rw [e] at hf
  generalize hfv : a.eval gop = fv at hf
  cases hf with
  | fn hy hcl hcr =>
    rename_i vs
    obtain ⟨hc1, hc2⟩ := h
    have hyl : R g1 (.fn (.yield H.length) []) (.func (.yield l) #[] #[]) := .yld hl
    have hargs : RCells g1 ([.fn (.yield H.length) []] ++ cap) (#[.func (.yield l) #[] #[]] ++ vs) := (RCells.one hyl).append ((RCells.mk hcl hcr).mono hg)
    have hcall := hc2 base w0 g1 w1 _ S hargs
    refine ⟨{ target := .fn (.func k) vs, args := #[.func (.yield l) #[] #[]] }, w1, k, #[.func (.yield l) #[] #[]] ++ vs, w1, ?_, fun _ _ => trivial, ?_, fun h => by simp [FR, Fence.wide] at h, ?_⟩
    · have ha : (rangeCall gop l).args.map a.eval = #[.func (.yield l) #[] #[]] := by simp [Act.eval]
      show (Deferred.ofValue (a.eval gop) ((rangeCall gop l).args.map a.eval)).run P w1 = _
      rw [hfv, ha]; rfl
    · unfold callable at hc1
      split at hc1
      · rename_i fn hfn
        simp only [Bool.and_eq_true, Bool.not_eq_true'] at hc1
        have hb : fn.body ≠ none := by intro hb; simp [hb] at hc1
        have hne : fn.name ≠ "runtime.NumGoroutine" := by simpa using hc1.2
        simp [invoke, callFunc, hfn, hne, hb]
      · cases hc1
    · refine (CallsIn.mono hcall fun e w3 ⟨v, a3, H3, g3, h1, h2, h3, h4, h5⟩ => ?_ : CallsIn Fence.wide 0 P k (#[.func (.yield l) #[] #[]] ++ vs) w1 _)
      subst h1
      obtain ⟨st, pend, f', T', n', ps', as', bd', D', hb, hst, hpost⟩ := h2
      obtain ⟨l3, tmps3, m1, m2, m3, m4, m5⟩ := h4.loop (st' := .exhausted) (pend' := pend) hb
      have : l3 = l := by have := h3.ph _ l hl; rw [m1] at this; cases this; rfl
      subst this
      have S4 := m5.dead H.length
      rw [List.set_set] at S4
      have S40 := S4; clear S4
      have hgg : g.le g3 := hg.trans h3
      have hmm : Marks g g3 mark := by simpa using hm.append (Marks.nil g1 g3) hg h3
      obtain ⟨w4, hend, S4⟩ : ∃ w4, (Instr.endLoop l3).run P w3 = .ok pend w4 ∧ Sim base w0 g3 (H3.set H.length .dead) w4 := by
        refine ⟨_, ?_, S40⟩
        unfold Instr.endLoop
        rw [Sem.run_bind, run_getLoop m4]
        simp only [Result.andThen_ok]
        rw [if_neg (by cases st <;> first | exact absurd rfl hst | simp)]
        simp only [Sem.run_bind, run_setObj m4, Result.andThen_ok, Sem.run_pure]
      refine ⟨pend, w4, hend, ?_⟩
      cases pend with
      | none => exact ⟨T, _, g3, mark, hpost, hgg, S4, hT.mono hgg, rfl, hmm⟩
      | some c =>
          refine wpIn_mono (hpost base w0 g3 _ { a with defers := mark ++ a.defers } r S4 (hT.mono hgg) (hr.mono hgg)) fun e a4 w4 ⟨T4, H4, g4, ds4, k1, k2, k3, k4, k5, k6⟩ => ?_
          exact ⟨T4, H4, g4, ds4 ++ mark, k1, hgg.trans k2, k3, k4, by rw [k5]; simp, hmm.append k6 hgg k2⟩

/-- for .. := range gop { body }, in no loop over a function -/
theorem Awp.range {n : Nat} {T : Env} {Q : Exit → Env → Hp → Prop} {gop : Operand} {ps : Array Tmp} {assign body : Code} {k : FuncId} {cap : List AV} (e : evA T gop = .fn (.func k) cap)
    (h : ∀ f D, ACalls P k ([.fn (.yield H.length) []] ++ cap) (H ++ [.loop .ready none f T n ps assign body D]) (rangeQ P n none T H.length Q)) : Awp P n none (.rangeFunc gop ps assign body) T H Q := by
  intro base w0 g w a r S hT hr
  cases r with
  | some l => exact hr.elim
  | none =>
    refine wpIn_rangeFunc fun fn hfn => ?_
    have S1 := S.allocMk
    have hle1 : g.le (g.mkAdd w.heap.size) := Sim.mkAdd_le _
    have hle2 : (g.mkAdd w.heap.size).le ((g.mkAdd w.heap.size).phAdd H.length (w.alloc (.deferred (some []))).heap.size 0 0) := Gh.phAdd_le S1.fresh
    have hT1 := hT.mono (hle1.trans hle2)
    have S2 := S1.alloc (k := 0) (c := 0) (ob := .loop .ready none fn T n ps assign body w.heap.size) (World.grownBy_alloc _ (.loop { state := .ready, pending := none, fn, tmps := a.tmps, params := ps, assign, body, defers := w.heap.size }) none) (heap_alloc_new _ _) (.loop hT1)
    obtain ⟨d, w1, f, args, w2, h1, h2, h3, h4, h5⟩ := range_core (P := P) (gop := gop) (mark := [⟨.collected w.heap.size, #[]⟩]) (hle1.trans hle2) S2 hT hr (by simp [Gh.phAdd]; rfl) ⟨by
      intro d hd
      simp only [List.mem_singleton] at hd
      subst hd
      exact ⟨_, rfl, .inl rfl, fun hm => absurd (S.marks _ hm).2.1 (Nat.lt_irrefl _)⟩, by simp⟩ e (h fn w.heap.size)
    refine ⟨_, _, _, d, w1, f, args, w2, ?_, h1, h2, h3, h4, h5⟩
    simp [Instr.enterLoop, FR, Sem.run_bind]

/-- the same within a round of the loop b0 -/
theorem Awp.rangeIn {n b0 : Nat} {T : Env} {Q : Exit → Env → Hp → Prop} {gop : Operand} {ps : Array Tmp} {assign body : Code} {k : FuncId} {cap : List AV} (e : evA T gop = .fn (.func k) cap)
    {st : LoopState} {pend : Option Code} {f0 : FuncId} {T0 : Env} {n0 : Nat} {ps0 : Array Tmp} {assign0 body0 : Code} {D0 : Nat} (hb0 : H[b0]? = some (.loop st pend f0 T0 n0 ps0 assign0 body0 D0))
    (h : ∀ f D, ACalls P k ([.fn (.yield H.length) []] ++ cap) (H ++ [.loop .ready none f T n ps assign body D]) (rangeQ P n (some b0) T H.length Q)) : Awp P n (some b0) (.rangeFunc gop ps assign body) T H Q := by
  intro base w0 g w a r S hT hr
  cases r with
  | none => exact hr.elim
  | some l0 =>
    refine wpIn_rangeFunc fun fn hfn => ?_
    obtain ⟨l', tmps0, m1, m2, m3, m4, _⟩ := S.loop (st' := .ready) (pend' := none) hb0
    have : l' = l0 := by have hr' : g.ph b0 = some l0 := hr; rw [m1] at hr'; cases hr'; rfl
    subst this
    have hle2 : g.le (g.phAdd H.length w.heap.size 0 0) := Gh.phAdd_le S.fresh
    have hT1 := hT.mono hle2
    have S2 := S.alloc (k := 0) (c := 0) (ob := .loop .ready none fn T n ps assign body D0) (World.grownBy_alloc _ (.loop { state := .ready, pending := none, fn, tmps := a.tmps, params := ps, assign, body, defers := D0 }) none) (heap_alloc_new _ _) (.loop hT1)
    obtain ⟨d, w1, f, args, w2, h1, h2, h3, h4, h5⟩ := range_core (P := P) (gop := gop) (mark := []) hle2 S2 hT hr (by simp [Gh.phAdd]; rfl) (Marks.nil _ _) e (h fn D0)
    refine ⟨_, _, _, d, w1, f, args, w2, ?_, h1, h2, h3, h4, h5⟩
    simp [Instr.enterLoop, FR, Sem.run_bind, run_getLoop m4]

end Go.Proofs.Ytehagceghnjamaa.Ab
namespace Go.Proofs.Ytehagceghnjamaa.Ab
open Go Go.RowKit

section steps
variable {P : Program} {mu : Nat → Bool} {n : Nat} {rd : Option Nat} {d : Option Draw} {done : List (Option Tmp)} {rest : List Oper} {T : Env} {H H' : Hp} {v : AV} {K : Env → Hp → Prop} {Q : Exit → Env → Hp → Prop}
variable {op : Op} {ty : TypeId} {pos : String} {aft : Array Edge} {gd : Option (Nat × Bool)} {s : Tmp}

theorem upd_app (T : Env) (d : Nat) (v : AV) (s : Nat) : upd T d v s = if s = d then v else T s := rfl
theorem env0_app (args : List AV) (t : Nat) : env0 args t = args.getD t (.val undef) := rfl

theorem reg {id : Nat} {ops : Array Oper} (mu : Nat → Bool) (h : wpO P mu n none [] ops.toList T H (Q .normal)) : Awp P n rd (.region id ops false) T H Q :=
  Awp.region (mu := mu) fun K hK => by
    have mono : ∀ (l : List Oper) (done : List (Option Tmp)) (T : Env) (H : Hp), wpO P mu n none done l T H (Q .normal) → wpO P mu n none done l T H K := by
      intro l
      induction l with
      | nil => intro done T H h; exact hK T H h
      | cons o l ih =>
        rintro done T H ⟨h1, b, h2, h3, h4⟩
        exact ⟨h1, b, h2, fun hb => (h3 hb).mono fun v H' h => ih _ _ _ h, fun hb => ih _ _ _ (h4 hb)⟩
    exact mono _ _ _ _ h

theorem stp (hc : callOf ⟨some s, op, ty, pos, aft, gd⟩ = none) (hd : dstOk n (some s) = true) (hg : guardA done gd T = some true)
    (h : stepA P mu ⟨some s, op, ty, pos, aft, gd⟩ T H = some (v, H')) (ho : okD P mu d done.length ⟨some s, op, ty, pos, aft, gd⟩ T H v H') (k : wpO P mu n d (done ++ [some s]) rest (upd T s v) H' K) : wpO P mu n d done (⟨some s, op, ty, pos, aft, gd⟩ :: rest) T H K := by
  exact ⟨hd, true, hg, fun _ => Perf.of (by unfold PerfTo; rw [hc]; exact h) ho k, fun h => by cases h⟩

/-- a store -/
theorem stpN (hc : callOf ⟨none, op, ty, pos, aft, gd⟩ = none) (hg : guardA done gd T = some true)
    (h : stepA P mu ⟨none, op, ty, pos, aft, gd⟩ T H = some (v, H')) (ho : okD P mu d done.length ⟨none, op, ty, pos, aft, gd⟩ T H v H') (k : wpO P mu n d (done ++ [none]) rest T H' K) : wpO P mu n d done (⟨none, op, ty, pos, aft, gd⟩ :: rest) T H K := by
  exact ⟨rfl, true, hg, fun _ => Perf.of (by unfold PerfTo; rw [hc]; exact h) ho k, fun h => by cases h⟩

/-- a comparison: both ways -/
theorem spD {p : Prop} [Decidable p] {ops : List Oper} (k1 : p → wpO P mu n d done ops (upd T s (.val (.bool true))) H K)
    (k2 : ¬ p → wpO P mu n d done ops (upd T s (.val (.bool false))) H K) : wpO P mu n d done ops (upd T s (.val (.bool (decide p)))) H K := by
  by_cases hp : p
  · rw [decide_eq_true hp]; exact k1 hp
  · rw [decide_eq_false hp]; exact k2 hp

/-- '==' of ints: both ways -/
theorem spE {x y : Int} {ops : List Oper} (k1 : x = y → wpO P mu n d done ops (upd T s (.val (.bool true))) H K)
    (k2 : x ≠ y → wpO P mu n d done ops (upd T s (.val (.bool false))) H K) : wpO P mu n d done ops (upd T s (.val (.bool (x == y)))) H K := by
  by_cases hp : x = y
  · rw [beq_iff_eq.2 hp]; exact k1 hp
  · rw [beq_eq_false_iff_ne.2 hp]; exact k2 hp

/-- '!=' of ints: both ways -/
theorem spF {x y : Int} {ops : List Oper} (k1 : x = y → wpO P mu n d done ops (upd T s (.val (.bool false))) H K)
    (k2 : x ≠ y → wpO P mu n d done ops (upd T s (.val (.bool true))) H K) : wpO P mu n d done ops (upd T s (.val (.bool (x != y)))) H K := by
  by_cases hp : x = y
  · rw [bne_eq_false_iff_eq.2 hp]; exact k1 hp
  · rw [bne_iff_ne.2 hp]; exact k2 hp

/-- a Bool: both ways -/
theorem spB {t : Bool} {ops : List Oper} (k1 : t = true → wpO P mu n d done ops (upd T s (.val (.bool true))) H K)
    (k2 : t = false → wpO P mu n d done ops (upd T s (.val (.bool false))) H K) : wpO P mu n d done ops (upd T s (.val (.bool t))) H K := by
  cases t
  · exact k2 rfl
  · exact k1 rfl

/-- a region that draws its order -/
theorem drw {id : Nat} {ops : Array Oper} (hm : P.follows .mixedOrders = true) (mu : Nat → Bool) (W : Draw) (hok : drawOk mu W ops (Region.before ops).toList = true)
    (h : wpO P mu n (some W) [] ops.toList T H (Q .normal)) : Awp P n rd (.region id ops true) T H Q := Awp.drawn hm mu W _ hok h

/-- which operations turn the heap, calls apart -/
def evOf (mu : Nat → Bool) (ops : Array Oper) (i : Nat) : Bool :=
  match ops[i]? with
  | some o => (match o.op with
    | .alloc _ | .box .. | .buildSlice .. => isMu mu o.dst
    | .store .. | .makeSlice .. => true
    | .call c => (match c.callee with | .builtin .len | .builtin .cap | .builtin .min | .builtin .max => false | .builtin _ => true | _ => false)
    | _ => false)
  | none => false

theorem drwE {id : Nat} {ops : Array Oper} (hm : P.follows .mixedOrders = true) (mu : Nat → Bool) (hok : drawOk mu (.of (evOf mu ops)) ops (Region.before ops).toList = true)
    (h : wpO P mu n (some (.of (evOf mu ops))) [] ops.toList T H (Q .normal)) : Awp P n rd (.region id ops true) T H Q := Awp.drawn hm mu _ _ hok h

theorem okT {P : Program} {mu : Nat → Bool} {i : Nat} {o : Oper} {T : Env} {H H' : Hp} {v : AV} : okD P mu none i o T H v H' := trivial
theorem okN {P : Program} {mu : Nat → Bool} {i : Nat} {o : Oper} {T : Env} {H : Hp} {v : AV} {ev : Nat → Bool} : okD P mu (some (.of ev)) i o T H v H := ⟨fun _ => rfl, fun _ _ => rfl, fun h => Bool.noConfusion h⟩
theorem okE {P : Program} {mu : Nat → Bool} {i : Nat} {o : Oper} {T : Env} {H H' : Hp} {v : AV} {ev : Nat → Bool} (h : ev i = true) : okD P mu (some (.of ev)) i o T H v H' :=
  ⟨fun k => (by have k : ev i = false := k; rw [h] at k; cases k), fun _ k => Bool.noConfusion (show false = true from k), fun k => Bool.noConfusion (show false = true from k)⟩

theorem get_new (L : Hp) (x : AObj) : (L ++ [x])[L.length]? = some x := by simp
theorem get_new2 (L : Hp) (x y : AObj) : (L ++ [x] ++ [y])[L.length]? = some x := by simp
theorem get_new3 (L : Hp) (x y z : AObj) : (L ++ [x] ++ [y] ++ [z])[L.length]? = some x := by simp
theorem get_new4 (L : Hp) (x y z u : AObj) : (L ++ [x] ++ [y] ++ [z] ++ [u])[L.length]? = some x := by simp
theorem set_new (L : Hp) (x c : AObj) : (L ++ [x]).set L.length c = L ++ [c] := by simp
theorem set_new2 (L : Hp) (x y c : AObj) : (L ++ [x] ++ [y]).set L.length c = L ++ [c] ++ [y] := by simp
theorem set_new3 (L : Hp) (x y z c : AObj) : (L ++ [x] ++ [y] ++ [z]).set L.length c = L ++ [c] ++ [y] ++ [z] := by simp
theorem set_new4 (L : Hp) (x y z u c : AObj) : (L ++ [x] ++ [y] ++ [z] ++ [u]).set L.length c = L ++ [c] ++ [y] ++ [z] ++ [u] := by simp

theorem get_mid (L Y : Hp) (x : AObj) : (L ++ [x] ++ Y)[L.length]? = some x := by simp
theorem get_mid2 (L Y Z : Hp) (x : AObj) : (L ++ [x] ++ Y ++ Z)[L.length]? = some x := by simp
theorem get_mid3 (L Y Z U : Hp) (x : AObj) : (L ++ [x] ++ Y ++ Z ++ U)[L.length]? = some x := by simp
theorem set_mid (L Y : Hp) (x c : AObj) : (L ++ [x] ++ Y).set L.length c = L ++ [c] ++ Y := by simp
theorem set_mid2 (L Y Z : Hp) (x c : AObj) : (L ++ [x] ++ Y ++ Z).set L.length c = L ++ [c] ++ Y ++ Z := by simp
theorem set_mid3 (L Y Z U : Hp) (x c : AObj) : (L ++ [x] ++ Y ++ Z ++ U).set L.length c = L ++ [c] ++ Y ++ Z ++ U := by simp

/-- an old block, in a heap that has grown -/
theorem held {H : Hp} {s : Nat} {v : AObj} (h : H[s]? = some v) :
    H[s]? = some v ∧ (∀ X, (H ++ X)[s]? = some v) ∧ (∀ X Y, (H ++ X ++ Y)[s]? = some v) ∧ (∀ X Y Z, (H ++ X ++ Y ++ Z)[s]? = some v) ∧ (∀ X Y Z U, (H ++ X ++ Y ++ Z ++ U)[s]? = some v) ∧ (∀ X Y Z U V, (H ++ X ++ Y ++ Z ++ U ++ V)[s]? = some v) := by
  have hlt := (List.getElem?_eq_some_iff.1 h).1
  have h1 : ∀ X, (H ++ X)[s]? = some v := fun X => by rw [List.getElem?_append_left hlt]; exact h
  refine ⟨h, h1, fun X Y => ?_, fun X Y Z => ?_, fun X Y Z U => ?_, fun X Y Z U V => ?_⟩ <;> simp only [List.append_assoc] <;> exact h1 _

theorem stp0 (hd : dstOk n (some s) = true) (hc : callOf ⟨some s, op, ty, pos, aft, none⟩ = none)
    (h : stepA P mu ⟨some s, op, ty, pos, aft, none⟩ T H = some (v, H')) (ho : okD P mu d done.length ⟨some s, op, ty, pos, aft, none⟩ T H v H') (k : wpO P mu n d (done ++ [some s]) rest (upd T s v) H' K) : wpO P mu n d done (⟨some s, op, ty, pos, aft, none⟩ :: rest) T H K :=
  stp hc hd rfl h ho k
theorem stpN0 (hc : callOf ⟨none, op, ty, pos, aft, none⟩ = none)
    (h : stepA P mu ⟨none, op, ty, pos, aft, none⟩ T H = some (v, H')) (ho : okD P mu d done.length ⟨none, op, ty, pos, aft, none⟩ T H v H') (k : wpO P mu n d (done ++ [none]) rest T H' K) : wpO P mu n d done (⟨none, op, ty, pos, aft, none⟩ :: rest) T H K :=
  stpN hc rfl h ho k

/-- a guard that lets the operation be -/
theorem gT {dst : Option Tmp} {p : Nat × Bool} (hg : guardA done (some p) T = some true) (k : wpO P mu n d done (⟨dst, op, ty, pos, aft, none⟩ :: rest) T H K) : wpO P mu n d done (⟨dst, op, ty, pos, aft, some p⟩ :: rest) T H K := by
  obtain ⟨h1, b, h2, h3, h4⟩ := k
  cases h2
  exact ⟨h1, true, hg, fun _ => by have := h3 rfl; exact this, fun h => by cases h⟩

theorem off (hd : dstOk n (some s) = true) (hg : guardA done gd T = some false)
    (k : wpO P mu n d (done ++ [some s]) rest (upd T s (.val undef)) H K) : wpO P mu n d done (⟨some s, op, ty, pos, aft, gd⟩ :: rest) T H K :=
  ⟨hd, false, hg, ⟨fun h => (by cases h), fun _ => k⟩⟩

theorem fin (k : K T H) : wpO P mu n d done [] T H K := k

variable {f : Operand} {args : Array Operand} {aT : Array TypeId}

/-- a call, by a contract of any kind -/
theorem cal {Post : AV → Hp → Prop} (hd : dstOk n (some s) = true) (hg : guardA done gd T = some true) {fv : AV} {as : List AV}
    (hf : evA T f = fv) (ha : args.toList.map (evA T) = as) (h : ACallV P fv as H Post)
    (k : ∀ v H', Post v H' → wpO P mu n none (done ++ [some s]) rest (upd T s v) H' K) : wpO P mu n none done (⟨some s, .call ⟨.value f, args, aT⟩, ty, pos, aft, gd⟩ :: rest) T H K := by
  subst hf; subst ha
  exact ⟨hd, true, hg, fun _ => ACallV.mono h k, fun h => by cases h⟩

/-- a call that comes to one value and one heap -/
def CallsTo (P : Program) (f : FuncId) (args : List AV) (H : Hp) (v : AV) (H' : Hp) : Prop := ACalls P f args H fun v1 H1 => v1 = v ∧ H1 = H'

theorem calTo0 {k' : FuncId} {cap : List AV} (hd : dstOk n (some s) = true) {as : List AV}
    (hf : evA T f = .fn (.func k') cap) (ha : args.toList.map (evA T) ++ cap = as) (h : CallsTo P k' as H v H') (ho : okD P mu d done.length ⟨some s, .call ⟨.value f, args, aT⟩, ty, pos, aft, none⟩ T H v H')
    (k : wpO P mu n d (done ++ [some s]) rest (upd T s v) H' K) : wpO P mu n d done (⟨some s, .call ⟨.value f, args, aT⟩, ty, pos, aft, none⟩ :: rest) T H K := by
  subst ha
  have h' : ACallV P (evA T f) (args.toList.map (evA T)) H (fun v1 H1 => v1 = v ∧ H1 = H') := by rw [hf]; exact h
  exact ⟨hd, true, rfl, fun _ => Perf.of h' ho k, fun h => by cases h⟩

/-- a call of a method value -/
theorem calM {k' : FuncId} {pre : List AV} (hd : dstOk n (some s) = true) {as : List AV}
    (hf : evA T f = .mth k' pre) (ha : pre ++ args.toList.map (evA T) = as) (h : CallsTo P k' as H v H') (ho : okD P mu d done.length ⟨some s, .call ⟨.value f, args, aT⟩, ty, pos, aft, none⟩ T H v H')
    (k : wpO P mu n d (done ++ [some s]) rest (upd T s v) H' K) : wpO P mu n d done (⟨some s, .call ⟨.value f, args, aT⟩, ty, pos, aft, none⟩ :: rest) T H K := by
  subst ha
  have h' : ACallV P (evA T f) (args.toList.map (evA T)) H (fun v1 H1 => v1 = v ∧ H1 = H') := by rw [hf]; exact h
  exact ⟨hd, true, rfl, fun _ => Perf.of h' ho k, fun h => by cases h⟩

/-- a call of a loop's round -/
theorem calY {b : Nat} (hd : dstOk n (some s) = true) {as : List AV} (hf : evA T f = .fn (.yield b) []) (ha : args.toList.map (evA T) = as)
    (h : AYield P b as H fun v1 H1 => v1 = v ∧ H1 = H') (ho : okD P mu d done.length ⟨some s, .call ⟨.value f, args, aT⟩, ty, pos, aft, none⟩ T H v H')
    (k : wpO P mu n d (done ++ [some s]) rest (upd T s v) H' K) : wpO P mu n d done (⟨some s, .call ⟨.value f, args, aT⟩, ty, pos, aft, none⟩ :: rest) T H K := by
  subst ha
  have h' : ACallV P (evA T f) (args.toList.map (evA T)) H (fun v1 H1 => v1 = v ∧ H1 = H') := by rw [hf]; exact h
  exact ⟨hd, true, rfl, fun _ => Perf.of h' ho k, fun h => by cases h⟩

theorem calTo {k' : FuncId} {cap : List AV} (hd : dstOk n (some s) = true) (hg : guardA done gd T = some true) {as : List AV}
    (hf : evA T f = .fn (.func k') cap) (ha : args.toList.map (evA T) ++ cap = as) (h : CallsTo P k' as H v H') (ho : okD P mu d done.length ⟨some s, .call ⟨.value f, args, aT⟩, ty, pos, aft, gd⟩ T H v H')
    (k : wpO P mu n d (done ++ [some s]) rest (upd T s v) H' K) : wpO P mu n d done (⟨some s, .call ⟨.value f, args, aT⟩, ty, pos, aft, gd⟩ :: rest) T H K := by
  subst ha
  have h' : ACallV P (evA T f) (args.toList.map (evA T)) H (fun v1 H1 => v1 = v ∧ H1 = H') := by rw [hf]; exact h
  exact ⟨hd, true, hg, fun _ => Perf.of h' ho k, fun h => by cases h⟩

/-- a call whose Bool is asked: both ways -/
theorem calB {k' : FuncId} {cap : List AV} {t : Bool} (hd : dstOk n (some s) = true) (hg : guardA done gd T = some true) {as : List AV}
    (hf : evA T f = .fn (.func k') cap) (ha : args.toList.map (evA T) ++ cap = as) (h : CallsTo P k' as H (.val (.bool t)) H') (ho : okD P mu d done.length ⟨some s, .call ⟨.value f, args, aT⟩, ty, pos, aft, gd⟩ T H (.val (.bool t)) H')
    (k1 : t = true → wpO P mu n d (done ++ [some s]) rest (upd T s (.val (.bool true))) H' K)
    (k2 : t = false → wpO P mu n d (done ++ [some s]) rest (upd T s (.val (.bool false))) H' K) : wpO P mu n d done (⟨some s, .call ⟨.value f, args, aT⟩, ty, pos, aft, gd⟩ :: rest) T H K := by
  refine calTo hd hg hf ha h ho ?_
  cases t
  · exact k2 rfl
  · exact k1 rfl

theorem condT {c : Operand} {x y : Code} (hc : evA T c = .val (.bool true)) (h : Awp P n rd x T H Q) : Awp P n rd (.cond c x y) T H Q := Awp.cond hc (fun _ => h) fun h => by cases h
theorem condF {c : Operand} {x y : Code} (hc : evA T c = .val (.bool false)) (h : Awp P n rd y T H Q) : Awp P n rd (.cond c x y) T H Q := Awp.cond hc (fun h => by cases h) fun _ => h

theorem thenQ_n {k : Env → Hp → Prop} (h : k T H) : thenQ k Q .normal T H := h
theorem thenQ_r {k : Env → Hp → Prop} (h : Q .ret T H) : thenQ k Q .ret T H := h
theorem thenQ_e {k : Env → Hp → Prop} {id : Nat} (h : Q (.exit id) T H) : thenQ k Q (.exit id) T H := h
theorem blockQ_n {id : Nat} (h : Q .normal T H) : blockQ id Q .normal T H := h
theorem blockQ_r {id : Nat} (h : Q .ret T H) : blockQ id Q .ret T H := h
theorem blockQ_e {id : Nat} (h : Q .normal T H) : blockQ id Q (.exit id) T H := by simp [blockQ, h]
theorem blockQ_o {id id' : Nat} (hn : (id' == id) = false) (h : Q (.exit id') T H) : blockQ id Q (.exit id') T H := by
  have : id' ≠ id := by simpa using hn
  simp [blockQ, h, this]

theorem Bel_val (m : Nat) (v : Value) : Bel m (.val v) := .val v
theorem Bel_tup {m : Nat} {cs : List AV} (h : ∀ c ∈ cs, Bel m c) : Bel m (.tup cs) := .tup h
theorem Bel_agg {m : Nat} {cs : List AV} (h : ∀ c ∈ cs, Bel m c) : Bel m (.agg cs) := .agg h

variable {fn : Func} {H0 X Y Z U : Hp} {e : Exit} {Post : AV → Hp → Prop} {vs : List AV}

/-- a function whose body hands back a value and leaves the heap as it was, but for what nothing leads to -/
theorem bodyQ_same (he : e = .normal ∨ e = .ret) (hr : resL P T (H0 ++ X) fn.results.toList = some vs) (hb : Bel H0.length (oneOf vs)) (hp : Post (oneOf vs) H0) :
    bodyQ P fn H0 Post e T (H0 ++ X) := ⟨he, vs, oneOf vs, H0, hr, Vs.drop hb, hp⟩

theorem bodyQ_eq {H1 : Hp} (he : e = .normal ∨ e = .ret) (hr : resL P T H1 fn.results.toList = some vs) (hp : Post (oneOf vs) H1) :
    bodyQ P fn H0 Post e T H1 := ⟨he, vs, oneOf vs, H1, hr, Vs.refl _ _ _, hp⟩

theorem bodyQ_d0 (he : e = .normal ∨ e = .ret) (hr : resL P T H0 fn.results.toList = some vs) (hv : oneOf vs = v) :
    bodyQ P fn H0 (fun v1 H1 => v1 = v ∧ H1 = H0) e T H0 := bodyQ_eq he hr ⟨hv, rfl⟩
theorem bodyQ_d1 (he : e = .normal ∨ e = .ret) (hr : resL P T (H0 ++ X) fn.results.toList = some vs) (hb : Bel H0.length (oneOf vs)) (hv : oneOf vs = v) :
    bodyQ P fn H0 (fun v1 H1 => v1 = v ∧ H1 = H0) e T (H0 ++ X) := bodyQ_same he hr hb ⟨hv, rfl⟩
theorem bodyQ_d2 (he : e = .normal ∨ e = .ret) (hr : resL P T (H0 ++ X ++ Y) fn.results.toList = some vs) (hb : Bel H0.length (oneOf vs)) (hv : oneOf vs = v) :
    bodyQ P fn H0 (fun v1 H1 => v1 = v ∧ H1 = H0) e T (H0 ++ X ++ Y) := by
  rw [List.append_assoc] at hr ⊢; exact bodyQ_same he hr hb ⟨hv, rfl⟩
theorem bodyQ_d3 (he : e = .normal ∨ e = .ret) (hr : resL P T (H0 ++ X ++ Y ++ Z) fn.results.toList = some vs) (hb : Bel H0.length (oneOf vs)) (hv : oneOf vs = v) :
    bodyQ P fn H0 (fun v1 H1 => v1 = v ∧ H1 = H0) e T (H0 ++ X ++ Y ++ Z) := by
  rw [List.append_assoc, List.append_assoc] at hr ⊢; exact bodyQ_same he hr hb ⟨hv, rfl⟩
theorem bodyQ_d4 (he : e = .normal ∨ e = .ret) (hr : resL P T (H0 ++ X ++ Y ++ Z ++ U) fn.results.toList = some vs) (hb : Bel H0.length (oneOf vs)) (hv : oneOf vs = v) :
    bodyQ P fn H0 (fun v1 H1 => v1 = v ∧ H1 = H0) e T (H0 ++ X ++ Y ++ Z ++ U) := by
  rw [List.append_assoc, List.append_assoc, List.append_assoc] at hr ⊢; exact bodyQ_same he hr hb ⟨hv, rfl⟩

end steps

/-! ### what a program's types come to -/

section types
variable {P : Program} {t e : TypeId}

def infoA (P : Program) (t : TypeId) : Option (Option Value × Nat × Nat) := (P.info? t).map fun i => (i.zero, i.size, i.bytes)

theorem infoA_some {z : Option Value} {k b : Nat} (h : infoA P t = some (z, k, b)) : ∃ i, P.info? t = some i ∧ i.zero = z ∧ i.size = k ∧ i.bytes = b := by
  unfold infoA at h
  simp only [Option.map_eq_some_iff, Prod.mk.injEq] at h
  obtain ⟨i, hi, h1, h2, h3⟩ := h
  exact ⟨i, hi, h1, h2, h3⟩

theorem load_agg {d : TypeDesc} {z : Option Value} {k b : Nat} (hu : P.underlying t = some d) (hd : (match d with | .struct _ | .array _ _ => true | _ => false) = true) (h : infoA P t = some (z, k, b)) (cs : List AV) (off : Nat) :
    loadA P t cs off = if off + k ≤ cs.length then some (.agg ((cs.drop off).take k)) else none := by
  obtain ⟨i, hi, _, rfl, _⟩ := infoA_some h
  unfold loadA
  rw [hu, hi]
  cases d <;> first | rfl | cases hd

theorem load_one {d : TypeDesc} {z : Option Value} {k b : Nat} (hu : P.underlying t = some d) (hd : (match d with | .struct _ | .array _ _ => true | _ => false) = false) (h : infoA P t = some (z, k, b)) (cs : List AV) (off : Nat) :
    loadA P t cs off = cs[off]? := by
  obtain ⟨i, hi, _, rfl, _⟩ := infoA_some h
  unfold loadA
  rw [hu, hi]
  cases d <;> first | rfl | cases hd

theorem size_of {z : Option Value} {k b : Nat} (h : infoA P t = some (z, k, b)) : sizeA P t = some k := by
  obtain ⟨i, hi, _, rfl, _⟩ := infoA_some h
  simp [sizeA, hi]

theorem zero_of {z : Value} {k b : Nat} (h : infoA P t = some (some z, k, b)) : zeroA P t = some (z.cells.toList.map .val) := by
  obtain ⟨i, hi, h1, rfl, _⟩ := infoA_some h
  simp [zeroA, hi, h1]

theorem elem_of {k : Nat} (hu : P.underlying t = some (.slice e)) (h : sizeA P e = some k) : elemA P t = .sl e k := by
  unfold elemA
  rw [hu]
  simp only [h]

theorem elem_arr {k n : Nat} (hu : P.underlying t = some (.array n e)) (h : sizeA P e = some k) (hn : 2 ≤ n) : elemA P t = .ar n e k := by
  unfold elemA
  rw [hu]
  simp only [h, hn, if_true]

theorem field_off {fs : Array Field} {f ft fo k : Nat} (hu : P.underlying t = some (.struct fs)) (hf : (fs[f]?).map (fun x => (x.type, x.offset)) = some (ft, fo)) (h : sizeA P ft = some k) (hk : 0 < k) : fieldOff P t f = some fo := by
  simp only [Option.map_eq_some_iff, Prod.mk.injEq] at hf
  obtain ⟨fl, hf, rfl, rfl⟩ := hf
  obtain ⟨i, hi, rfl⟩ := Option.map_eq_some_iff.1 h
  unfold fieldOff
  rw [hu]
  simp only [hf, hi]
  rw [if_neg (by omega)]

theorem field_to {fs : Array Field} {f ft fo : Nat} (hu : P.underlying t = some (.struct fs)) (hf : (fs[f]?).map (fun x => (x.type, x.offset)) = some (ft, fo)) : fieldTO P t f = some (ft, fo) := by
  simp only [Option.map_eq_some_iff, Prod.mk.injEq] at hf
  obtain ⟨fl, hf, rfl, rfl⟩ := hf
  unfold fieldTO
  rw [hu]
  simp only [hf]

def appendB (e : TypeId) (k b : Nat) (s x : AV) (H : Hp) : Option (AV × Hp) :=
  match srcA k x H with
  | some xs =>
    if xs.length = 0 then (match s with | .val (.slice none 0 0) => some (s, H) | .rsl .. => some (s, H) | .msl .. => some (s, H) | _ => none)
    else match s with
      | .val (.slice none 0 0) => if xs.length * b ≤ 140737488355328 then some (.msl H.length 0 xs.length, H ++ [.cells xs e]) else none
      | .rsl es true => if es.all (fun e => e.length == k) ∧ (es.length + xs.length) * b ≤ 140737488355328 then some (.msl H.length 0 (es.length + xs.length), H ++ [.cells (es ++ xs) e]) else none
      | .msl c 0 len => match H[c]? with
        | some (.cells es e') =>
          if e' = e ∧ len ≤ es.length ∧ 0 < es.length ∧ es.all (fun e => e.length == k) ∧ xs.all (fun e => e.all AV.isCell) ∧ (len + xs.length) * b ≤ 140737488355328 then
            some (.msl H.length 0 (len + xs.length), H.set c .dead ++ [.cells (es.take len ++ xs) e]) else none
        | _ => none
      | _ => none
  | none => none

theorem append_of {z : Value} {k b : Nat} (hu : P.underlying t = some (.slice e)) (h : infoA P e = some (some z, k, b)) (hz : z.cells.size = k) (hk : 0 < k) (hb : 0 < b) (s x : AV) (H : Hp) :
    appendA P t t s x H = appendB e k b s x H := by
  obtain ⟨i, hi, h1, rfl, rfl⟩ := infoA_some h
  unfold appendA appendB
  rw [if_pos rfl, hu]
  simp only [hi, h1]
  rw [if_pos ⟨hz, hk, hb⟩]
  rfl

theorem make_of {z : Value} {k b : Nat} (hu : P.underlying t = some (.slice e)) (h : infoA P e = some (some z, k, b)) (hz : z.cells.size = k) (hk : 0 < k) (n : Int) :
    makeA P t n = if 0 ≤ n ∧ b * n ≤ 281474976710656 ∧ n ≤ 9223372036854775807 then some (List.replicate n.toNat (z.cells.toList.map .val), e) else none := by
  obtain ⟨i, hi, h1, rfl, rfl⟩ := infoA_some h
  unfold makeA
  rw [hu]
  simp only [hi, h1, hz, hk, true_and]

theorem lit_of {z : Value} {k b : Nat} (hu : P.underlying t = some (.slice e)) (h : infoA P e = some (some z, k, b)) (hz : z.cells.size = k) (hk : 0 < k) (len : Nat) (ps : List (Nat × AV)) :
    litA P t len ps = if len * k ≤ 16777216 then (fillE k (List.replicate len (z.cells.toList.map .val)) ps).map fun es => (es, e) else none := by
  obtain ⟨i, hi, h1, rfl, rfl⟩ := infoA_some h
  unfold litA
  rw [hu]
  simp only [hi, h1, hz, hk, true_and]

def sliceB (k : Nat) (x : AV) (lo hi mx : Option AV) : Option AV :=
  match x with
  | .rsl es ex => match bnd 0 lo, bnd es.length hi, bnd es.length mx with
    | some l, some h, some m =>
      if l ≤ h ∧ h ≤ m ∧ m ≤ es.length ∧ (l = h ∨ (es[l]?).map List.length = some k) ∧ (mx.isSome → hi.isSome) then
        some (.rsl ((es.take h).drop l) (if mx.isSome then m == h else ex && h == es.length)) else none
    | _, _, _ => none
  | .msl b off len => match bnd 0 lo, bnd len hi, mx with
    | some l, some h, none => if l ≤ h ∧ h ≤ len then (if l = 0 then some (.msl b off h) else if l = h then some (.rsl [] false) else none) else none
    | _, _, _ => none
  | _ => none

theorem slice_of {k : Nat} (hu : P.underlying t = some (.slice e)) (h : sizeA P e = some k) (x : AV) (lo hi mx : Option AV) : sliceA P t x lo hi mx = sliceB k x lo hi mx := by
  obtain ⟨i, hi, rfl⟩ := Option.map_eq_some_iff.1 h
  unfold sliceA sliceB
  rw [hu]
  simp only [hi]
  cases x <;> rfl

theorem fillA_congr {p q : Nat → Option (Nat × Nat)} (h : ∀ i, p i = q i) (cs : List AV) (ps : List (Nat × AV)) : fillA p cs ps = fillA q cs ps := by
  have : p = q := funext h
  rw [this]

theorem build_of {fs : Array Field} {z : Value} {k b : Nat} {pl : List (Nat × Nat)} (hu : P.underlying t = some (.struct fs)) (h : infoA P t = some (some z, k, b))
    (hpl : fs.toList.map (fun f => (sizeA P f.type).map fun s => (f.offset, s)) = pl.map some) (ps : List (Nat × AV)) :
    buildA P t ps = (fillA (fun i => pl[i]?) (z.cells.toList.map .val) ps).map .agg := by
  obtain ⟨i, hi, h1, rfl, rfl⟩ := infoA_some h
  unfold buildA
  rw [hu]
  simp only [hi, h1]
  have hget : ∀ j : Nat, (fs[j]?).map (fun f => (sizeA P f.type).map fun s => (f.offset, s)) = (pl[j]?).map some := by
    intro j
    have := congrArg (fun l => l[j]?) hpl
    simpa using this
  have hall : fs.toList.all (fun f => (P.info? f.type).isSome) = true := by
    rw [List.all_eq_true]
    intro f hf
    obtain ⟨j, hj⟩ := List.getElem?_of_mem hf
    have hj' : fs[j]? = some f := by simpa using hj
    have := hget j
    rw [hj', Option.map_some] at this
    cases hp : pl[j]? with
    | none => rw [hp] at this; cases this
    | some q =>
      rw [hp, Option.map_some, Option.some.injEq] at this
      obtain ⟨s, hs, _⟩ := Option.map_eq_some_iff.1 this
      obtain ⟨i', hi', _⟩ := Option.map_eq_some_iff.1 hs
      simp [hi']
  rw [if_pos hall]
  congr 1
  refine fillA_congr (fun j => ?_) _ _
  have := hget j
  unfold placeA
  cases hf : fs[j]? with
  | none =>
    rw [hf] at this
    cases hp : pl[j]? with
    | none => rfl
    | some q => rw [hp] at this; cases this
  | some f =>
    rw [hf, Option.map_some] at this
    cases hp : pl[j]? with
    | none => rw [hp] at this; cases this
    | some q =>
      rw [hp, Option.map_some, Option.some.injEq] at this
      obtain ⟨s, hs, rfl⟩ := Option.map_eq_some_iff.1 this
      obtain ⟨i', hi', rfl⟩ := Option.map_eq_some_iff.1 hs
      simp [hi']

end types

theorem w64 {x : Int} (h1 : -9223372036854775808 ≤ x) (h2 : x ≤ 9223372036854775807) : IntKind.i64.wrap x = x := by
  rw [IntKind.wrap_i64]; omega

theorem wsucc {i n : Nat} (h : i < n) (hn : n ≤ maxLen) : IntKind.i64.wrap ((i : Int) + 1) = ((i + 1 : Nat) : Int) := by
  simp only [maxLen] at hn
  rw [w64 (by omega) (by omega)]; rfl

theorem ite_min (x y : Int) : (if y < x then y else x) = min x y := by
  split <;> omega
theorem ite_max (x y : Int) : (if y > x then y else x) = max x y := by
  split <;> omega

/-- a row of ints -/
theorem bad_first {α : Type} {p : α → Bool} {l : List α} {i : Nat} {x : α} (h : l[i]? = some x) (hx : p x = true) : l.any p = true :=
  List.any_eq_true.2 ⟨x, List.mem_of_getElem? h, hx⟩

theorem bad_none {α : Type} {p : α → Bool} {l : List α} (h : ∀ (j : Nat) (x : α), l[j]? = some x → p x = false) : l.any p = false := by
  rw [List.any_eq_false]
  intro x hx
  obtain ⟨j, hj⟩ := List.getElem?_of_mem hx
  simp [h j x hj]

/-- an operator of two operands that are no two numbers -/
def binR (P : Program) (op : BinOp) (t : TypeId) (x y : Operand) (a b : AV) : Option AV :=
  match op with
  | .eql => if (nilKind P t a && nilOf P t b) || (nilOf P t a && nilKind P t b) then some (.val (.bool false)) else
      match a.flat, b.flat with
      | some u, some v => match aggEq P t u v with
        | some r => some (.val (.bool (r)))
        | none => (pureRun P (do eqGuard .eql t x y u v; binOp .eql t u v)).map .val
      | _, _ => none
  | .neq => if (nilKind P t a && nilOf P t b) || (nilOf P t a && nilKind P t b) then some (.val (.bool true)) else
      match a.flat, b.flat with
      | some u, some v => match aggEq P t u v with
        | some r => some (.val (.bool (!r)))
        | none => (pureRun P (do eqGuard .neq t x y u v; binOp .neq t u v)).map .val
      | _, _ => none
  | op => match a.flat, b.flat with
      | some u, some v => (pureRun P (do eqGuard op t x y u v; binOp op t u v)).map .val
      | _, _ => none

theorem binA_int {P : Program} {op : BinOp} {t : TypeId} {x y : Operand} (k k' : IntKind) (m n : Int) : binA P op t x y (.val (.int k m)) (.val (.int k' n)) = intA P op t k m k' n := rfl
theorem binA_bool {P : Program} {op : BinOp} {t : TypeId} {x y : Operand} (p : Bool) (b : AV) : binA P op t x y (.val (.bool p)) b = binR P op t x y (.val (.bool p)) b := by cases op <;> rfl
theorem binA_str {P : Program} {op : BinOp} {t : TypeId} {x y : Operand} (p : ByteArray) (b : AV) : binA P op t x y (.val (.string p)) b = binR P op t x y (.val (.string p)) b := by cases op <;> rfl
theorem binA_ptr {P : Program} {op : BinOp} {t : TypeId} {x y : Operand} (p : Option Addr) (b : AV) : binA P op t x y (.val (.pointer p)) b = binR P op t x y (.val (.pointer p)) b := by cases op <;> rfl
theorem binA_sl {P : Program} {op : BinOp} {t : TypeId} {x y : Operand} (p : Option Addr) (n c : Nat) (b : AV) : binA P op t x y (.val (.slice p n c)) b = binR P op t x y (.val (.slice p n c)) b := by cases op <;> rfl
theorem binA_map {P : Program} {op : BinOp} {t : TypeId} {x y : Operand} (p : Option Nat) (b : AV) : binA P op t x y (.val (.map p)) b = binR P op t x y (.val (.map p)) b := by cases op <;> rfl
theorem binA_nf {P : Program} {op : BinOp} {t : TypeId} {x y : Operand} (b : AV) : binA P op t x y (.val .nilFunc) b = binR P op t x y (.val .nilFunc) b := by cases op <;> rfl
theorem binA_rptr {P : Program} {op : BinOp} {t : TypeId} {x y : Operand} (cs : List AV) (o : Nat) (b : AV) : binA P op t x y (.rptr cs o) b = binR P op t x y (.rptr cs o) b := by cases op <;> rfl
theorem binA_mptr {P : Program} {op : BinOp} {t : TypeId} {x y : Operand} (i j o : Nat) (b : AV) : binA P op t x y (.mptr i j o) b = binR P op t x y (.mptr i j o) b := by cases op <;> rfl
theorem binA_rsl {P : Program} {op : BinOp} {t : TypeId} {x y : Operand} (es : List (List AV)) (e : Bool) (b : AV) : binA P op t x y (.rsl es e) b = binR P op t x y (.rsl es e) b := by cases op <;> rfl
theorem binA_msl {P : Program} {op : BinOp} {t : TypeId} {x y : Operand} (i o n : Nat) (b : AV) : binA P op t x y (.msl i o n) b = binR P op t x y (.msl i o n) b := by cases op <;> rfl
theorem binA_mp {P : Program} {op : BinOp} {t : TypeId} {x y : Operand} (i : Nat) (b : AV) : binA P op t x y (.mp i) b = binR P op t x y (.mp i) b := by cases op <;> rfl
theorem binA_fn {P : Program} {op : BinOp} {t : TypeId} {x y : Operand} (f : Fn) (cs : List AV) (b : AV) : binA P op t x y (.fn f cs) b = binR P op t x y (.fn f cs) b := by cases op <;> rfl

attribute [go_sem] upd_app env0_app stepA evA guardA binA_int binA_bool binA_str binA_ptr binA_sl binA_map binA_nf binA_rptr binA_mptr binA_rsl binA_msl binA_mp binA_fn binR unA intA boxA isMu AV.cells AV.flat AV.flats Value.cells partsA builtinA lenA maxA maxF appendB srcA sliceB bnd fillA fillE setAt resL resV oneOf
  List.getD_cons_zero List.getD_cons_succ Option.map_some Option.map_none List.map_cons List.map_nil List.getElem?_cons_zero List.getElem?_cons_succ List.getElem?_nil List.length_cons List.length_nil
  List.drop_succ_cons List.drop_zero List.take_succ_cons List.take_zero List.nil_append List.cons_append List.append_nil Option.isSome_some Option.isSome_none Bool.false_eq_true if_true if_false
  Bool.or_true Bool.or_false Bool.true_or Bool.false_or Bool.and_true Bool.and_false Bool.true_and Bool.false_and beq_self_eq_true Bool.not_true Bool.not_false nilKind nilOf true_and and_true get_new get_mid get_mid2 get_mid3 set_new set_mid set_mid2 set_mid3 Int.toNat_natCast Int.natCast_nonneg ge_iff_le List.length_map ite_min ite_max List.replicate_succ List.replicate_zero List.set_cons_zero List.set_cons_succ List.all_cons List.all_nil AV.isCell bne_self_eq_false decide_true decide_false

end Go.Proofs.Ytehagceghnjamaa.Ab
namespace Go.Proofs.Ytehagceghnjamaa.Ab
open Go Go.RowKit
variable {P : Program} {n : Nat} {rd : Option Nat} {T T' : Env} {H : Hp} {Q : Exit → Env → Hp → Prop}

/-- a row of one's own that never turns again, wherever a slot has it -/
theorem Awp.freeze {c : Code} {b : Nat} {es : List (List AV)} {t : TypeId} (hb : H[b]? = some (.cells es t))
    (hT : ∀ s, T' s = T s ∨ ∃ off len, T s = .msl b off len ∧ off + len ≤ es.length ∧ T' s = .rsl ((es.drop off).take len) false)
    (h : Awp P n rd c T' (H.set b .dead) Q) : Awp P n rd c T H Q := by
  intro base w0 g w a r S hTR hr
  obtain ⟨y, o, h1, _, _⟩ := S.obj b _ hb (by simp)
  obtain ⟨g', h2, h3, h4⟩ := freeze_R S hb h1
  have hTR' : TRel g' n T' a.tmps := by
    refine ⟨hTR.size, fun s => ?_⟩
    rcases hT s with e | ⟨off, len, e, hfit, e'⟩
    · rw [e]; exact (hTR.slot s).mono h2
    · rw [e']
      have := hTR.slot s
      rw [e] at this
      exact h4 off len _ hfit this
  refine wpIn_mono (h base w0 g' w a r h3 hTR' (hr.mono h2)) fun e a2 w2 ⟨T2, H2, g2, ds, k1, k2, k3, k4, k5, k6⟩ => ?_
  exact ⟨T2, H2, g2, ds, k1, h2.trans k2, k3, k4, k5, by simpa using (Marks.nil g g').append k6 h2 k2⟩

/-- what is known of the slots -/
theorem Awp.withT {c : Code} (p : Env → Prop) (hp : p T) (h : ∀ T', p T' → Awp P n rd c T' H Q) : Awp P n rd c T H Q := h T hp

/-- what is known of the heap's first part -/
theorem Awp.withH {c : Code} {B X : Hp} (p : Hp → Prop) (hp : p B) (h : ∀ A, p A → Awp P n rd c T (A ++ X) Q) : Awp P n rd c T (B ++ X) Q := h B hp

/-- two slots that have the row -/
theorem Awp.freeze1 {c : Code} {b : Nat} {es : List (List AV)} {t : TypeId} (s len : Nat) (hs : T s = .msl b 0 len) (hfit : len ≤ es.length) (hb : H[b]? = some (.cells es t))
    (h : Awp P n rd c (upd T s (.rsl (es.take len) false)) (H.set b .dead) Q) : Awp P n rd c T H Q := by
  refine Awp.freeze hb (fun s' => ?_) h
  by_cases e : s' = s
  · subst e
    exact .inr ⟨0, len, hs, by omega, by simp [upd]⟩
  · exact .inl (by simp [upd, e])

theorem Bel.mono {m m' : Nat} (hm : m ≤ m') {a : AV} (h : Bel m a) : Bel m' a := by
  induction h with
  | val v => exact .val v
  | rptr _ ih => exact .rptr ih
  | mptr h => exact .mptr (Nat.lt_of_lt_of_le h hm)
  | rsl _ ih => exact .rsl ih
  | msl h => exact .msl (Nat.lt_of_lt_of_le h hm)
  | fn hy _ ih => exact .fn hy ih
  | mth _ ih => exact .mth ih
  | yld h => exact .yld (Nat.lt_of_lt_of_le h hm)
  | mp h => exact .mp (Nat.lt_of_lt_of_le h hm)
  | agg _ ih => exact .agg ih
  | tup _ ih => exact .tup ih

theorem BelO.mono {m m' : Nat} (hm : m ≤ m') {a : AObj} (h : BelO m a) : BelO m' a := by
  cases h with
  | cells h => exact .cells fun e he c hc => (h e he c hc).mono hm
  | amap h => exact .amap fun e he => ⟨(h e he).1.mono hm, (h e he).2.mono hm⟩
  | loop h => exact .loop fun t => (h t).mono hm
  | dead => exact .dead

theorem BelO_cells {m : Nat} {es : List (List AV)} {t : TypeId} (h : ∀ e ∈ es, ∀ c ∈ e, Bel m c) : BelO m (.cells es t) := .cells h
theorem Bel_iff_tup (m : Nat) (cs : List AV) : Bel m (.tup cs) ↔ ∀ c ∈ cs, Bel m c := ⟨fun h => by cases h; assumption, .tup⟩
theorem Bel_iff_agg (m : Nat) (cs : List AV) : Bel m (.agg cs) ↔ ∀ c ∈ cs, Bel m c := ⟨fun h => by cases h; assumption, .agg⟩
theorem Bel_iff_rsl (m : Nat) (es : List (List AV)) (ex : Bool) : Bel m (.rsl es ex) ↔ ∀ e ∈ es, ∀ c ∈ e, Bel m c := ⟨fun h => by cases h; assumption, .rsl⟩
theorem Bel_iff_mptr (m b i off : Nat) : Bel m (.mptr b i off) ↔ b < m := ⟨fun h => by cases h; assumption, .mptr⟩
theorem Bel_iff_msl (m b off len : Nat) : Bel m (.msl b off len) ↔ b < m := ⟨fun h => by cases h; assumption, .msl⟩

theorem bel_append {H0 X : Hp} (hX : ∀ c ∈ X, BelO (H0 ++ X).length c) (h : ∀ (b : Nat) (ob : AObj), H0[b]? = some ob → ob ≠ .dead → BelO H0.length ob) :
    ∀ (b : Nat) (ob : AObj), (H0 ++ X)[b]? = some ob → ob ≠ .dead → BelO (H0 ++ X).length ob := by
  intro b ob hb hn
  rw [List.getElem?_append] at hb
  split at hb
  · exact (h b ob hb hn).mono (by simp)
  · exact hX ob (List.mem_of_getElem? hb)

variable {fn : Func} {H0 X : Hp} {e : Exit} {Post : AV → Hp → Prop} {vs : List AV}

theorem bodyQ_mk {H' : Hp} {a : AV} (he : e = .normal ∨ e = .ret) (hr : resL P T H fn.results.toList = some vs) (hv : Vs H0 (oneOf vs) H a H') (hp : Post a H') : bodyQ P fn H0 Post e T H := ⟨he, vs, a, H', hr, hv, hp⟩

/-- a body that hands back new blocks Y -/
theorem bodyQ_new {Y : Hp} (he : e = .normal ∨ e = .ret) (hr : resL P T (H0 ++ Y ++ X) fn.results.toList = some vs) (hY : ∀ c ∈ Y, BelO (H0 ++ Y).length c) (hb : Bel (H0 ++ Y).length (oneOf vs)) (hp : Post (oneOf vs) (H0 ++ Y)) :
    bodyQ P fn H0 Post e T (H0 ++ Y ++ X) :=
  ⟨he, vs, oneOf vs, H0 ++ Y, hr, Vs.dropTo (by simp) (bel_append hY) hb, hp⟩

end Go.Proofs.Ytehagceghnjamaa.Ab
namespace Go.Proofs.Ytehagceghnjamaa.Ab
open Go Go.RowKit
variable {base : Nat} {w0 w : World} {g : Gh} {P : Program}

/-- own blocks from number m on are forgotten, but for p, which is number m now -/
def Gh.moved (g : Gh) (m p : Nat) : Gh :=
  { g with ph := fun b => if b < m then g.ph b else if b = m then g.ph p else none, ks := fun b => if b = m then g.ks p else g.ks b, cp := fun b => if b = m then g.cp p else g.cp b }

theorem Bel.moved {m p : Nat} {a : AV} {v : Value} (hb : Bel m a) (h : R g a v) : R (g.moved m p) a v := by
  refine @R.mono4 (g.cut m) (g.moved m p) (fun _ _ _ h => h) (fun b x h => ?_) (fun b x h => ?_) (fun b x h => ?_) a v (hb.cut h)
  · change (if b < m then g.ph b else none) = some x at h
    show (if b < m then g.ph b else _) = some x
    split at h
    · rename_i hlt; rw [if_pos hlt]; exact h
    · cases h
  · change (if b < m then g.ph b else none) = some x at h
    show (if b = m then g.ks p else g.ks b) = g.ks b
    split at h
    · rw [if_neg (by omega)]
    · cases h
  · change (if b < m then g.ph b else none) = some x at h
    show (if b = m then g.cp p else g.cp b) = g.cp b
    split at h
    · rw [if_neg (by omega)]
    · cases h

theorem BelO.moved {m p k cp : Nat} {ob : AObj} {o : Obj} (hb : BelO m ob) (h : ORel g k cp ob o) : ORel (g.moved m p) k cp ob o := by
  cases h with
  | cells hs hl hk hr =>
    cases hb with
    | cells hb =>
      refine .cells hs hl hk fun i e j c he hc => ?_
      obtain ⟨v, h1, h2⟩ := hr i e j c he hc
      exact ⟨v, h1, (hb e (List.mem_of_getElem? he) c (List.mem_of_getElem? hc)).moved h2⟩
  | loop h =>
    cases hb with
    | loop hb => exact .loop ⟨h.size, fun t => (hb t).moved (h.slot t)⟩
  | amap hl hr =>
    cases hb with
    | amap hb => exact .amap hl fun i e m he hm => ⟨(hb e (List.mem_of_getElem? he)).1.moved (hr i e m he hm).1, (hb e (List.mem_of_getElem? he)).2.moved (hr i e m he hm).2⟩
  | dead => exact .dead _

theorem Vs.move {H0 A G : Hp} {blk : AObj} {s len : Nat} {pre post : List AV} {t : TypeId} {a : AV} (hl : H0.length ≤ A.length) (hs : A[s]? = some (.cells [pre ++ .msl (A ++ G).length 0 len :: post] t))
    (hpre : ∀ c ∈ pre, Bel A.length c) (hpost : ∀ c ∈ post, Bel A.length c)
    (hA : (∀ (b : Nat) (ob : AObj), H0[b]? = some ob → ob ≠ .dead → BelO H0.length ob) → ∀ (b : Nat) (ob : AObj), b ≠ s → A[b]? = some ob → ob ≠ .dead → BelO A.length ob) (hblk : BelO A.length blk) (ha : Bel A.length a) :
    Vs H0 a (A ++ G ++ [blk]) a (A.set s (.cells [pre ++ .msl A.length 0 len :: post] t) ++ [blk]) := by
  intro base w0 g0 g w x hd hb hg S hR
  have hslt : s < A.length := (List.getElem?_eq_some_iff.1 hs).1
  have hlen : (A.set s (.cells [pre ++ .msl A.length 0 len :: post] t)).length = A.length := by simp
  -- where the objects were
  have old : ∀ (b : Nat) (ob : AObj), (A.set s (.cells [pre ++ .msl A.length 0 len :: post] t) ++ [blk])[b]? = some ob →
      (b = s ∧ ob = .cells [pre ++ .msl A.length 0 len :: post] t) ∨ (b ≠ s ∧ b < A.length ∧ A[b]? = some ob ∧ (A ++ G ++ [blk])[b]? = some ob) ∨ (b = A.length ∧ ob = blk) := by
    intro b ob h
    rw [List.getElem?_append] at h
    split at h
    · rename_i hlt
      rw [hlen] at hlt
      rw [List.getElem?_set] at h
      split at h
      · rename_i e
        cases h
        exact .inl ⟨e.symm, rfl⟩
      · rename_i e
        refine .inr (.inl ⟨fun h => e h.symm, hlt, h, ?_⟩)
        rw [List.append_assoc, List.getElem?_append_left hlt]; exact h
    · rename_i hge
      rw [hlen] at hge h
      have : b - A.length = 0 := by
        rcases Nat.eq_zero_or_pos (b - A.length) with h0 | h0
        · exact h0
        · rw [List.getElem?_eq_none (by simp; omega)] at h; cases h
      rw [this] at h
      simp at h
      exact .inr (.inr ⟨by omega, h.symm⟩)
  have hsS : (A ++ G ++ [blk])[s]? = some (.cells [pre ++ .msl (A ++ G).length 0 len :: post] t) := by
    rw [List.append_assoc, List.getElem?_append_left hslt]; exact hs
  have hpS : (A ++ G ++ [blk])[(A ++ G).length]? = some blk := get_new _ _
  have hne : (A ++ G).length ≠ s := by simp; omega
  -- the number that an object had
  let q : Nat → Nat := fun b => if b = A.length then (A ++ G).length else b
  have hph : ∀ (b x : Nat), (g.moved A.length (A ++ G).length).ph b = some x → b ≤ A.length ∧ g.ph (q b) = some x := by
    intro b x h
    change (if b < A.length then g.ph b else if b = A.length then g.ph (A ++ G).length else none) = some x at h
    split at h
    · rename_i hlt
      refine ⟨by omega, ?_⟩
      show g.ph (if b = A.length then _ else b) = _
      rw [if_neg (by omega)]; exact h
    · split at h
      · rename_i e
        refine ⟨by omega, ?_⟩
        show g.ph (if b = A.length then _ else b) = _
        rw [if_pos e]; exact h
      · cases h
  have hq : ∀ (b : Nat) (ob : AObj), (A.set s (.cells [pre ++ .msl A.length 0 len :: post] t) ++ [blk])[b]? = some ob → ob ≠ .dead → ∃ ob', (A ++ G ++ [blk])[q b]? = some ob' ∧ ob' ≠ .dead := by
    intro b ob h hn
    rcases old b ob h with ⟨rfl, rfl⟩ | ⟨h1, h2, h3, h4⟩ | ⟨rfl, rfl⟩
    · refine ⟨.cells [pre ++ .msl (A ++ G).length 0 len :: post] t, ?_, by simp⟩
      · show (A ++ G ++ [blk])[if b = A.length then _ else b]? = _
        rw [if_neg (by omega)]; exact hsS
    · refine ⟨ob, ?_, hn⟩
      show (A ++ G ++ [blk])[if b = A.length then _ else b]? = _
      rw [if_neg (by omega)]; exact h4
    · refine ⟨ob, ?_, hn⟩
      show (A ++ G ++ [ob])[if A.length = A.length then _ else _]? = _
      rw [if_pos rfl]; exact hpS
  have qinj : ∀ b c, b ≤ A.length → c ≤ A.length → q b = q c → b = c := by
    intro b c h1 h2 h
    change (if b = A.length then (A ++ G).length else b) = (if c = A.length then (A ++ G).length else c) at h
    have : A.length ≤ (A ++ G).length := by simp
    split at h <;> split at h <;> omega
  refine ⟨g.moved A.length (A ++ G).length, ⟨hg.fz, fun b y h => ?_, fun b y h => ?_, fun b y h => ?_, hg.mr⟩, ?_, ha.moved hR⟩
  · have := hd b y h
    show (if b < A.length then g.ph b else _) = some y
    rw [if_pos (by omega)]; exact hg.ph b y h
  · have := hd b y h
    show (if b = A.length then _ else g.ks b) = _
    rw [if_neg (by omega)]; exact hg.ks b y h
  · have := hd b y h
    show (if b = A.length then _ else g.cp b) = _
    rw [if_neg (by omega)]; exact hg.cp b y h
  · exact
    { below := S.below
      low := S.low
      fz := S.fz
      dom := fun b x h => by have := (hph b x h).1; simp; omega
      pos := fun b x h => S.pos _ x (hph b x h).2
      sep := fun b x ob h hn hx => by
        obtain ⟨ob', h1, h2⟩ := hq b ob h hn
        exact S.sep _ x ob' h1 h2 (hph b x hx).2
      inj := fun b c x ob oc h hn h' hn' hx hx' => by
        obtain ⟨ob1, h1, h2⟩ := hq b ob h hn
        obtain ⟨ob2, k1, k2⟩ := hq c oc h' hn'
        exact qinj b c (hph b x hx).1 (hph c x hx').1 (S.inj _ _ x ob1 ob2 h1 h2 k1 k2 (hph b x hx).2 (hph c x hx').2)
      obj := fun b ob h hn => by
        rcases old b ob h with ⟨rfl, rfl⟩ | ⟨h1, h2, h3, h4⟩ | ⟨rfl, rfl⟩
        · obtain ⟨x, o, k1, k2, k3⟩ := S.obj b _ hsS (by simp)
          refine ⟨x, o, ?_, k2, ?_⟩
          · show (if b < A.length then g.ph b else _) = _
            rw [if_pos hslt]; exact k1
          · have e1 : (g.moved A.length (A ++ G).length).ks b = g.ks b := by show (if b = A.length then _ else _) = _; rw [if_neg (by omega)]
            have e2 : (g.moved A.length (A ++ G).length).cp b = g.cp b := by show (if b = A.length then _ else _) = _; rw [if_neg (by omega)]
            rw [e1, e2]
            cases k3 with
            | cells hsz hle hk hr =>
              refine .cells hsz (by simpa using hle) (fun i e he => ?_) (fun i e j c he hc => ?_)
              · rcases i with _ | i
                · simp at he; subst he
                  have := hk 0 _ rfl
                  simpa using this
                · simp at he
              · rcases i with _ | i
                · simp at he; subst he
                  by_cases hj : j = pre.length
                  · subst hj
                    rw [List.getElem?_append_right (Nat.le_refl _), Nat.sub_self] at hc
                    simp at hc; subst hc
                    obtain ⟨v, v1, v2⟩ := hr 0 _ pre.length (.msl (A ++ G).length 0 len) rfl (by rw [List.getElem?_append_right (Nat.le_refl _), Nat.sub_self]; rfl)
                    refine ⟨v, v1, ?_⟩
                    cases v2 with
                    | msl hx hl' hc' hm =>
                      rename_i y cap
                      have e3 : g.ks (A ++ G).length = (g.moved A.length (A ++ G).length).ks A.length := by show _ = (if A.length = A.length then _ else _); rw [if_pos rfl]
                      rw [e3]
                      refine .msl ?_ hl' ?_ hm
                      · show (if A.length < A.length then _ else if A.length = A.length then g.ph _ else none) = _
                        rw [if_neg (by omega), if_pos rfl]; exact hx
                      · show _ = (if A.length = A.length then g.cp _ else _)
                        rw [if_pos rfl]; exact hc'
                  · have hc0 : (pre ++ AV.msl (A ++ G).length 0 len :: post)[j]? = some c := by
                      rw [List.getElem?_append] at hc ⊢
                      split at hc
                      · rename_i h; rw [if_pos h]; exact hc
                      · rename_i h
                        rw [if_neg h]
                        obtain ⟨d, hd'⟩ : ∃ d, j - pre.length = d + 1 := ⟨j - pre.length - 1, by omega⟩
                        rw [hd'] at hc ⊢
                        simpa using hc
                    obtain ⟨v, v1, v2⟩ := hr 0 _ j c rfl hc0
                    refine ⟨v, v1, Bel.moved ?_ v2⟩
                    rw [List.getElem?_append] at hc
                    split at hc
                    · exact hpre c (List.mem_of_getElem? hc)
                    · rename_i h
                      obtain ⟨d, hd'⟩ : ∃ d, j - pre.length = d + 1 := ⟨j - pre.length - 1, by omega⟩
                      rw [hd'] at hc
                      simp at hc
                      exact hpost c (List.mem_of_getElem? hc)
                · simp at he
        · obtain ⟨x, o, k1, k2, k3⟩ := S.obj b ob h4 hn
          refine ⟨x, o, ?_, k2, ?_⟩
          · show (if b < A.length then g.ph b else _) = _
            rw [if_pos h2]; exact k1
          · have e1 : (g.moved A.length (A ++ G).length).ks b = g.ks b := by show (if b = A.length then _ else _) = _; rw [if_neg (by omega)]
            have e2 : (g.moved A.length (A ++ G).length).cp b = g.cp b := by show (if b = A.length then _ else _) = _; rw [if_neg (by omega)]
            rw [e1, e2]
            exact (hA hb b ob h1 h3 hn).moved k3
        · obtain ⟨x, o, k1, k2, k3⟩ := S.obj _ ob hpS hn
          refine ⟨x, o, ?_, k2, ?_⟩
          · show (if A.length < A.length then _ else if A.length = A.length then g.ph _ else none) = _
            rw [if_neg (by omega), if_pos rfl]; exact k1
          · have e1 : (g.moved A.length (A ++ G).length).ks A.length = g.ks (A ++ G).length := by show (if A.length = A.length then _ else _) = _; rw [if_pos rfl]
            have e2 : (g.moved A.length (A ++ G).length).cp A.length = g.cp (A ++ G).length := by show (if A.length = A.length then _ else _) = _; rw [if_pos rfl]
            rw [e1, e2]
            exact hblk.moved k3
      marks := S.marks }

/-- an object told otherwise -/
theorem Sim.retell {H : Hp} (S : Sim base w0 g H w) {s : Nat} {ob ob' : AObj} (hs : H[s]? = some ob) (hn : ob ≠ .dead) (h : ∀ k cp o, ORel g k cp ob o → ORel g k cp ob' o) : Sim base w0 g (H.set s ob') w := by
  have hslt : s < H.length := (List.getElem?_eq_some_iff.1 hs).1
  have old : ∀ (b : Nat) (oc : AObj), (H.set s ob')[b]? = some oc → (b = s ∧ oc = ob') ∨ (b ≠ s ∧ H[b]? = some oc) := by
    intro b oc h
    rw [List.getElem?_set] at h
    split at h
    · rename_i e
      cases h
      exact .inl ⟨e.symm, rfl⟩
    · rename_i e
      exact .inr ⟨fun h => e h.symm, h⟩
  have was : ∀ (b : Nat) (oc : AObj), (H.set s ob')[b]? = some oc → oc ≠ .dead → ∃ od, H[b]? = some od ∧ od ≠ .dead := by
    intro b oc h hn'
    rcases old b oc h with ⟨rfl, _⟩ | ⟨_, h⟩
    · exact ⟨ob, hs, hn⟩
    · exact ⟨oc, h, hn'⟩
  exact
  { below := S.below
    low := S.low
    fz := S.fz
    dom := fun b x h => by simpa using S.dom b x h
    pos := S.pos
    sep := fun b x oc h hn' hx => by
      obtain ⟨od, h1, h2⟩ := was b oc h hn'
      exact S.sep b x od h1 h2 hx
    inj := fun b c x o1 o2 h1 n1 h2 n2 hx hy => by
      obtain ⟨p1, a1, a2⟩ := was b o1 h1 n1
      obtain ⟨p2, b1, b2⟩ := was c o2 h2 n2
      exact S.inj b c x p1 p2 a1 a2 b1 b2 hx hy
    obj := fun b oc h' hn' => by
      rcases old b oc h' with ⟨rfl, rfl⟩ | ⟨_, h1⟩
      · obtain ⟨x, o, k1, k2, k3⟩ := S.obj b ob hs hn
        exact ⟨x, o, k1, k2, h _ _ _ k3⟩
      · exact S.obj b oc h1 hn'
    marks := S.marks }

/-- a row that an object has never turns again -/
theorem Vs.freezeIn {H0 H : Hp} {a : AV} {s b len : Nat} {pre post : List AV} {es : List (List AV)} {t t' : TypeId} (hsb : s ≠ b) (hs : H[s]? = some (.cells [pre ++ .msl b 0 len :: post] t)) (hb : H[b]? = some (.cells es t')) (hfit : len ≤ es.length) :
    Vs H0 a H a ((H.set b .dead).set s (.cells [pre ++ .rsl (es.take len) false :: post] t)) := by
  intro base w0 g0 g w x _ _ hg S hR
  obtain ⟨y, o, h1, _, _⟩ := S.obj b _ hb (by simp)
  obtain ⟨g', h2, h3, h4⟩ := freeze_R S hb h1
  refine ⟨g', hg.trans h2, ?_, hR.mono h2⟩
  refine h3.retell (s := s) (ob := .cells [pre ++ .msl b 0 len :: post] t) ?_ (by simp) ?_
  · rw [List.getElem?_set_ne (fun e => hsb e.symm)]; exact hs
  · intro k cp o h
    -- the row's value is one that the old knowledge had
    cases h with
    | cells hsz hle hk hr =>
      obtain ⟨x2, o2, q1, q2, q3⟩ := S.obj s _ hs (by simp)
      refine .cells hsz (by simpa using hle) (fun i e he => ?_) (fun i e j c he hc => ?_)
      · rcases i with _ | i
        · simp at he; subst he
          have := hk 0 _ rfl
          simpa using this
        · simp at he
      · rcases i with _ | i
        · simp at he; subst he
          by_cases hj : j = pre.length
          · subst hj
            rw [List.getElem?_append_right (Nat.le_refl _), Nat.sub_self] at hc
            simp at hc; subst hc
            obtain ⟨v, v1, v2⟩ := hr 0 _ pre.length (.msl b 0 len) rfl (by rw [List.getElem?_append_right (Nat.le_refl _), Nat.sub_self]; rfl)
            refine ⟨v, v1, ?_⟩
            have v3 : R g (.msl b 0 len) v := by
              cases v2 with
              | msl hx hl' hc' hm =>
                have e1 := h2.ks b y h1
                have e2 := h2.cp b y h1
                have e3 := h2.ph b y h1
                rw [e3] at hx
                cases hx
                rw [e1]
                rw [e2] at hc'
                exact .msl h1 hl' hc' hm
            have := h4 0 len v (by omega) v3
            simpa using this
          · have hc0 : (pre ++ AV.msl b 0 len :: post)[j]? = some c := by
              rw [List.getElem?_append] at hc ⊢
              split at hc
              · rename_i h; rw [if_pos h]; exact hc
              · rename_i h
                rw [if_neg h]
                obtain ⟨d, hd'⟩ : ∃ d, j - pre.length = d + 1 := ⟨j - pre.length - 1, by omega⟩
                rw [hd'] at hc ⊢
                simpa using hc
            exact hr 0 _ j c rfl hc0
        · simp at he

end Go.Proofs.Ytehagceghnjamaa.Ab
namespace Go.Proofs.Ytehagceghnjamaa.Ab
open Go Go.RowKit

variable {base : Nat} {w0 w w' : World} {g : Gh} {H : Hp} {P : Program} {n : Nat} {rd : Option Nat} {T : Env} {mu : Nat → Bool}

/-- a call of function f panics -/
def ACallsP (P : Program) (f : FuncId) (args : List AV) (H : Hp) (Post : List PanicEntry → Hp → Prop) : Prop :=
  callable P f = true ∧ ∀ (base : Nat) (w0 : World) (g : Gh) (w : World) (vs : Array Value), Sim base w0 g H w → RCells g args vs →
    CallsIn Fence.wide 0 P f vs w fun e w' => ∃ c H' g', e = .panicked c ∧ Post c H' ∧ g.le g' ∧ Sim base w0 g' H' w'

def ACallVP (P : Program) (fv : AV) (args : List AV) (H : Hp) (Post : List PanicEntry → Hp → Prop) : Prop :=
  match fv with
  | .fn (.func k) cap => ACallsP P k (args ++ cap) H Post
  | .mth k pre => ACallsP P k (pre ++ args) H Post
  | _ => False

theorem ACallsP.mono {f : FuncId} {args : List AV} {Post Post' : List PanicEntry → Hp → Prop} (h : ACallsP P f args H Post) (hp : ∀ a H', Post a H' → Post' a H') : ACallsP P f args H Post' :=
  ⟨h.1, fun base w0 g w vs S hr => (h.2 base w0 g w vs S hr).mono fun _ _ ⟨a, H', g', h1, h2, h3⟩ => ⟨a, H', g', h1, hp a H' h2, h3⟩⟩

/-- the machine's word for one operation: it panics -/
def OpPan (P : Program) (o : Oper) (T : Env) (H : Hp) (k : List PanicEntry → Hp → Prop) : Prop :=
  ∀ (base : Nat) (w0 : World) (g : Gh) (w : World) (a : Act) (r : Option Nat), Sim base w0 g H w → (∀ x ∈ o.op.operands, R g (evA T x) (a.eval x)) →
    ∀ (next : Act → World → Prop) (Q : Exit → Act → World → Prop),
      (∀ c H' g' w', k c H' → g.le g' → Sim base w0 g' H' w' → Q (.panic c) a w') → o.wpIn (FR r) 0 P a w next Q

theorem OpPan.call {o : Oper} {f : Operand} {args : Array Operand} {k : List PanicEntry → Hp → Prop} (ho : callOf o = some (f, args)) (h : ACallVP P (evA T f) (args.toList.map (evA T)) H k) : OpPan P o T H k := by
  obtain ⟨aT, ho⟩ := callOf_eq ho
  intro base w0 g w a r S hr next Q hn
  have hf := hr f (by simp [ho, Op.operands, Call.operands])
  obtain ⟨hl, hp⟩ := list_rel (g := g) (T := T) (a := a) args (fun x hx => hr x (by simp [ho, Op.operands, Call.operands, hx]))
  have hargs : RCells g (args.toList.map (evA T)) (args.map a.eval) := ⟨hl, hp⟩
  have hex : o.semAt (FR r).round a.eval = execOp a.eval o := Oper.semAt_eq _ _ _ (by intro c hc; rw [ho] at hc; cases hc)
  refine ⟨fun _ _ => trivial, ?_⟩
  rw [hex]
  unfold ACallVP at h
  split at h
  · rename_i k' cap e
    rw [e] at hf
    generalize hfv : a.eval f = fv at hf
    cases hf with
    | fn hy hcl hcr =>
      rename_i vs
      obtain ⟨hc1, hc2⟩ := h
      have hcall := hc2 base w0 g w (args.map a.eval ++ vs) S (hargs.append ⟨hcl, hcr⟩)
      have hrun : (execOp a.eval o).run P w = .ok (.enter k' (args.map a.eval ++ vs)) w := by
        unfold callable at hc1
        split at hc1
        · rename_i fn hfn
          simp only [Bool.and_eq_true, Bool.not_eq_true'] at hc1
          have hb : fn.body ≠ none := by intro hb; simp [hb] at hc1
          have hne : fn.name ≠ "runtime.NumGoroutine" := by simpa using hc1.2
          simp [execOp, ho, resolve, Deferred.ofValue, hfv, invoke, callFunc, hfn, hne, hb]
        · cases hc1
      rw [hrun, Oper.uponIn_enter]
      refine ⟨fun h => by simp [FR, Fence.wide] at h, ?_⟩
      refine (CallsIn.mono hcall fun e w' ⟨c', H', g', h1, h2, h3, h4⟩ => ?_ : CallsIn Fence.wide 0 P k' (args.map a.eval ++ vs) w _)
      subst h1
      exact hn c' H' g' w' h2 h3 h4
  · rename_i k' pre e
    rw [e] at hf
    generalize hfv : a.eval f = fv at hf
    cases hf with
    | mth hcl hcr =>
      rename_i vs
      obtain ⟨hc1, hc2⟩ := h
      have hcall := hc2 base w0 g w (vs ++ args.map a.eval) S (RCells.append ⟨hcl, hcr⟩ hargs)
      have hrun : (execOp a.eval o).run P w = .ok (.enter k' (vs ++ args.map a.eval)) w := by
        unfold callable at hc1
        split at hc1
        · rename_i fn hfn
          simp only [Bool.and_eq_true, Bool.not_eq_true'] at hc1
          have hb : fn.body ≠ none := by intro hb; simp [hb] at hc1
          have hne : fn.name ≠ "runtime.NumGoroutine" := by simpa using hc1.2
          simp [execOp, ho, resolve, Deferred.ofValue, hfv, invoke, callFunc, hfn, hne, hb]
        · cases hc1
      rw [hrun, Oper.uponIn_enter]
      refine ⟨fun h => by simp [FR, Fence.wide] at h, ?_⟩
      refine (CallsIn.mono hcall fun e w' ⟨c', H', g', h1, h2, h3, h4⟩ => ?_ : CallsIn Fence.wide 0 P k' (vs ++ args.map a.eval) w _)
      subst h1
      exact hn c' H' g' w' h2 h3 h4
  · exact h.elim

theorem OpPan.panic {o : Oper} {x : Operand} {t : TypeId} {u : Value} {k : List PanicEntry → Hp → Prop} (ho : o.op = .panic x) (he : evA T x = .val (.iface t u)) (hk : k [{ v := .iface t u, recovered := false }] H) : OpPan P o T H k := by
  intro base w0 g w a r S hr next Q hn
  have hx := hr x (by simp [ho, Op.operands])
  rw [he] at hx
  generalize hv : a.eval x = v at hx
  cases hx
  have hex : o.semAt (FR r).round a.eval = execOp a.eval o := Oper.semAt_eq _ _ _ (by intro c hc; rw [ho] at hc; cases hc)
  refine ⟨fun _ _ => trivial, ?_⟩
  have hrun : (execOp a.eval o).run P w = .halt (.panic (.iface t u)) w := by
    simp [execOp, ho, hv, Instr.panic, goPanic]
  rw [hex, hrun, Oper.uponIn_panic]
  exact hn _ _ g w hk (Gh.le.refl g) S

/-! ### a region in the order of its text of which an operation panics -/

theorem wpO_soundM {d : Option Draw} {ops : List Oper} {more : List Oper} {r : Option Nat} {Q : Exit → Act → World → Prop} {base : Nat} {w0 : World} {ds : List Deferred} {g0 : Gh} {K : Env → Hp → Prop}
    (hQ : ∀ T H g w a, K T H → g0.le g → Sim base w0 g H w → TRel g n T a.tmps → a.defers = ds → wpListIn (FR r) 0 P ops.toArray Q more a w) :
    ∀ (l : List Oper) (done : List (Option Tmp)) (T : Env) (H : Hp) (g : Gh) (w : World) (a : Act), ops.map (·.dst) = done ++ (l ++ more).map (·.dst) → (∀ d ∈ done, dstOk n d = true) → g0.le g → Sim base w0 g H w →
      TRel g n T a.tmps → a.defers = ds → wpO P mu n d done l T H K → wpListIn (FR r) 0 P ops.toArray Q (l ++ more) a w
  | [], done, T, H, g, w, a, _, _, hg, S, hT, hd, h => hQ T H g w a h hg S hT hd
  | o :: rest, done, T, H, g, w, a, hops, hn, hg, S, hT, hd, h => by
    obtain ⟨hdst, b, hb, h1, h2⟩ := h
    have hw := guardA_wanted (rest := rest ++ more) hT hops hn hb
    have hops' : ops.map (·.dst) = (done ++ [o.dst]) ++ (rest ++ more).map (·.dst) := by rw [hops]; simp
    have hn' : ∀ d ∈ done ++ [o.dst], dstOk n d = true := by
      intro d hd'
      rcases List.mem_append.1 hd' with h | h
      · exact hn d h
      · simp at h; subst h; exact hdst
    have hput : ∀ z, (a.put o.dst z).defers = a.defers := by intro z; cases o.dst <;> rfl
    show wpListIn (FR r) 0 P ops.toArray Q (o :: (rest ++ more)) a w
    unfold wpListIn
    cases b with
    | true =>
      rw [if_pos hw]
      refine (h1 rfl).ok base w0 g w a r S (fun x _ => evA_rel hT x) _ _ (fun v z H' g' w' hk hg' S' hR => ?_)
      exact wpO_soundM hQ rest _ _ H' g' w' _ hops' hn' (hg.trans hg') S' ((hT.mono hg').put hdst hR) (by rw [hput]; exact hd) hk
    | false =>
      rw [if_neg (by rw [hw]; simp)]
      refine ⟨fun _ _ => trivial, ?_⟩
      exact wpO_soundM hQ rest _ _ H g w _ hops' hn' hg S (hT.put hdst (.val _)) (by rw [hput]; exact hd) (h2 rfl)

theorem wanted_none {o : Oper} (h : o.guard = none) (ys : Nat → Option Bool) : Region.wanted o ys = true := by
  unfold Region.wanted
  rw [h]

theorem Awp.regionP {id : Nat} {ops : Array Oper} {o : Oper} {Q : Exit → Env → Hp → Prop} (mu : Nat → Bool) (m : Nat) (ho : ops[m]? = some o) (hg : o.guard = none)
    (h : wpO P mu n none [] (ops.toList.take m) T H (fun T' H' => OpPan P o T' H' fun c H'' => Q (.panic c) T' H'')) : Awp P n rd (.region id ops false) T H Q := by
  intro base w0 g w a r S hT hr
  refine wpIn_region_list ?_
  have hlt : m < ops.toList.length := by have := (Array.getElem?_eq_some_iff.1 ho).1; simpa using this
  have hdrop : ops.toList.drop m = o :: ops.toList.drop (m + 1) := by
    rw [List.drop_eq_getElem_cons hlt]
    have : ops.toList[m] = o := by
      have := (Array.getElem?_eq_some_iff.1 ho).2
      simpa using this
    rw [this]
  have hsplit : ops.toList = ops.toList.take m ++ ops.toList.drop m := (List.take_append_drop m _).symm
  have := wpO_soundM (P := P) (mu := mu) (n := n) (d := none) (ops := ops.toList) (more := ops.toList.drop m) (r := r) (base := base) (w0 := w0) (ds := a.defers) (g0 := g)
    (Q := fun e a' w' => ∃ T' H' g' ds, Q e T' H' ∧ g.le g' ∧ Sim base w0 g' H' w' ∧ TRel g' n T' a'.tmps ∧ a'.defers = ds ++ a.defers ∧ Marks g g' ds)
    (K := fun T' H' => OpPan P o T' H' fun c H'' => Q (.panic c) T' H'')
    (fun T H g' w a' hk hg' S' hT' hd => by
      rw [hdrop]
      unfold wpListIn
      rw [if_pos (wanted_none hg _)]
      exact hk base w0 g' w a' r S' (fun x _ => evA_rel hT' x) _ _ fun c H'' g'' w'' hq hg'' S'' =>
        ⟨T, H'', g'', [], hq, hg'.trans hg'', S'', hT'.mono hg'', hd, Marks.nil _ _⟩)
    (ops.toList.take m) [] T H g w a (by rw [List.nil_append, ← hsplit]) (by simp) (Gh.le.refl g) S hT rfl h
  rw [← hsplit] at this
  exact this

/-! ### a region that draws its order, told order by order -/

def AAny (P : Program) (n : Nat) (ops : Array Oper) (Q : Exit → Env → Hp → Prop) (T : Env) (H : Hp) (fuel : Nat) (listed : Array Bool) : Prop :=
  ∀ (base : Nat) (w0 : World) (g : Gh) (w : World) (a : Act) (r : Option Nat) (X : Exit → Act → World → Prop), Sim base w0 g H w → TRel g n T a.tmps →
    (∀ e T' H' g' a' w', Q e T' H' → g.le g' → Sim base w0 g' H' w' → TRel g' n T' a'.tmps → a'.defers = a.defers → X e a' w') → wpAnyIn (FR r) 0 P .any ops X fuel listed a w

def AReady (P : Program) (n : Nat) (ops : Array Oper) (Q : Exit → Env → Hp → Prop) (T : Env) (H : Hp) (fuel : Nat) (listed : Array Bool) (rs : List Nat) : Prop :=
  ∀ i ∈ rs, ∀ (base : Nat) (w0 : World) (g : Gh) (w : World) (a : Act) (r : Option Nat) (X : Exit → Act → World → Prop), Sim base w0 g H w → TRel g n T a.tmps →
    (∀ e T' H' g' a' w', Q e T' H' → g.le g' → Sim base w0 g' H' w' → TRel g' n T' a'.tmps → a'.defers = a.defers → X e a' w') →
      wpOpIn (FR r) 0 P ops X i (wpAnyIn (FR r) 0 P .any ops X fuel (listed.setIfInBounds i true)) a w

section any
variable {ops : Array Oper} {Q : Exit → Env → Hp → Prop} {fuel : Nat} {listed : Array Bool} {rs : List Nat} {i : Nat}

theorem AAny.step (hr : Region.ready .any ops listed = rs) (hne : rs ≠ []) (h : AReady P n ops Q T H fuel listed rs) : AAny P n ops Q T H (fuel + 1) listed :=
  fun base w0 g w a r X S hT hX => wpAnyIn_all hr hne fun i hi => h i hi base w0 g w a r X S hT hX

theorem AAny.done (hr : Region.ready .any ops listed = []) (h : Q .normal T H) : AAny P n ops Q T H fuel listed :=
  fun _ _ g _ _ _ _ S hT hX => wpAnyIn_done hr (hX _ T H g _ _ h (Gh.le.refl g) S hT rfl) _

theorem AReady.nil : AReady P n ops Q T H fuel listed [] := fun _ h => by cases h

theorem AReady.cons {o : Oper} {v : AV} {H' : Hp} (ho : ops[i]? = some o) (hg : o.guard = none) (hd : dstOk n o.dst = true) (h : PerfTo P mu o T H v H')
    (k : AAny P n ops Q (putA T o.dst v) H' fuel (listed.setIfInBounds i true)) (hs : AReady P n ops Q T H fuel listed rs) : AReady P n ops Q T H fuel listed (i :: rs) := by
  intro j hj
  rcases List.mem_cons.1 hj with rfl | hj
  · intro base w0 g w a r X S hT hX
    unfold wpOpIn
    rw [ho]
    simp only
    rw [if_pos (wanted_none hg _)]
    have hdef : ∀ z, (a.put o.dst z).defers = a.defers := by intro z; cases o.dst <;> rfl
    refine h.ok base w0 g w a r S (fun x _ => evA_rel hT x) _ _ (fun v1 z H1 g' w' hk hg' S' hR => ?_)
    obtain ⟨rfl, rfl⟩ := hk
    exact k base w0 g' w' _ r X S' ((hT.mono hg').put hd hR) fun e T' H' g2 a' w2 hq hg2 S2 hT2 hd2 => hX e T' H' g2 a' w2 hq (hg'.trans hg2) S2 hT2 (hd2.trans (hdef _))
  · exact hs j hj

theorem AReady.pan {o : Oper} (ho : ops[i]? = some o) (hg : o.guard = none) (h : OpPan P o T H fun c H' => Q (.panic c) T H') (hs : AReady P n ops Q T H fuel listed rs) : AReady P n ops Q T H fuel listed (i :: rs) := by
  intro j hj
  rcases List.mem_cons.1 hj with rfl | hj
  · intro base w0 g w a r X S hT hX
    unfold wpOpIn
    rw [ho]
    simp only
    rw [if_pos (wanted_none hg _)]
    exact h base w0 g w a r S (fun x _ => evA_rel hT x) _ _ fun c H' g' w' hq hg' S' => hX _ T H' g' a w' hq hg' S' (hT.mono hg') rfl
  · exact hs j hj

theorem Awp.anyP {id : Nat} (hm : P.follows .mixedOrders = true) (h : AAny P n ops Q T H ops.size (Array.replicate ops.size false)) : Awp P n rd (.region id ops true) T H Q := by
  intro base w0 g w a r S hT hr
  refine wpIn_region_any hm ?_
  exact h base w0 g _ a r _ S.drew hT fun e T' H' g' a' w' hq hg' S' hT' hd => ⟨T', H', g', [], hq, hg', S', hT', hd, Marks.nil _ _⟩

end any

/-! ### the way out -/

theorem leaves_marksU {fn : Func} {tmps : Array Value} {R0 : Ending → World → Prop} {gi : Gh} {u : FrameMode} {rest : List Deferred} (hu : u ≠ .run)
    (hfin : ∀ g w, gi.le g → Sim base w0 g H w → TRel g n T tmps → LeavesInM Fence.wide 0 P fn tmps R0 rest u w) :
    ∀ (ds : List Deferred) (g : Gh) (w : World), Sim base w0 g H w → TRel g n T tmps → gi.le g → Marks gi g ds → LeavesInM Fence.wide 0 P fn tmps R0 (ds ++ rest) u w
  | [], g, w, S, hT, hg, _ => hfin g w hg S hT
  | d :: ds, g, w, S, hT, hg, hm => by
    obtain ⟨r, rfl, h1, h2⟩ := hm.mark d (by simp)
    obtain ⟨g', w', k1, k2, k3, k4⟩ := S.take (P := P) h1
    have hg' : gi.le g' := ⟨fun b o v h => by rw [k2.fz]; exact hg.fz b o v h, fun b x h => by rw [k2.ph]; exact hg.ph b x h, fun b x h => by rw [k2.ks]; exact hg.ks b x h,
      fun b x h => by rw [k2.cp]; exact hg.cp b x h, fun x h => (k3 x).2 ⟨hg.mr x h, fun e => by subst e; exact h2 h⟩⟩
    refine ⟨hu, .inl ⟨r, w', rfl, k1, ?_⟩⟩
    refine leaves_marksU hu hfin ds g' w' k4 (hT.same k2) hg' ⟨fun e he => ?_, hm.nodup.tail⟩
    obtain ⟨s, rfl, l1, l2⟩ := hm.mark e (by simp [he])
    refine ⟨s, rfl, (k3 s).2 ⟨l1, fun hs => ?_⟩, l2⟩
    subst hs
    have := (List.pairwise_cons.1 hm.nodup).1 _ he
    simp at this

theorem enter_rel {fn : Func} {args : List AV} {vs : Array Value} (hr : RCells g args vs) (hl : args.length ≤ fn.ntmps) : TRel g fn.ntmps (env0 args) (vs ++ Array.replicate (fn.ntmps - vs.size) undef) := by
  have hsz := hr.size
  refine ⟨by simp; omega, fun t => ?_⟩
  rw [Array.getD_eq_getD_getElem?, Array.getElem?_append]
  unfold env0
  by_cases ht : t < vs.size
  · rw [if_pos ht, Array.getElem?_eq_getElem ht, Option.getD_some, List.getD_eq_getElem?_getD, List.getElem?_eq_getElem (by omega), Option.getD_some]
    exact hr.cell t _ _ (List.getElem?_eq_getElem (by omega)) (Array.getElem?_eq_getElem ht)
  · rw [if_neg ht, List.getD_eq_getElem?_getD, List.getElem?_eq_none (by omega), Option.getD_none]
    have : ((Array.replicate (fn.ntmps - vs.size) undef)[t - vs.size]?).getD undef = undef := by
      rw [Array.getElem?_replicate]; split <;> rfl
    rw [this]
    exact .val _

theorem Sim.bels (S : Sim base w0 g H w) : ∀ (b : Nat) (ob : AObj), H[b]? = some ob → ob ≠ .dead → BelO H.length ob := by
  intro b ob hb hn
  obtain ⟨x, o, _, _, h3⟩ := S.obj b ob hb hn
  exact h3.bel S.dom

/-- the way a body goes that panics: what it made may be forgotten -/
def panQ (H0 : Hp) (Post : List PanicEntry → Hp → Prop) : Exit → Env → Hp → Prop := fun e _ H => ∃ c H', e = .panic c ∧ Vs H0 (.val undef) H (.val undef) H' ∧ Post c H'

theorem ACallsP.of_body {f : FuncId} {fn : Func} {c : Code} {args : List AV} {Post : List PanicEntry → Hp → Prop} (hf : P.funcs[f]? = some fn) (hb : fn.body = some c) (hcl : callable P f = true) (hl : args.length ≤ fn.ntmps)
    (h : Awp P fn.ntmps none c (env0 args) H (panQ H Post)) : ACallsP P f args H Post := by
  refine ⟨hcl, fun base w0 g w vs S hr => ?_⟩
  refine callsIn_of_wp_marks hf hb trivial ?_ rfl
  have hw := h base w0 g w { tmps := vs ++ Array.replicate (fn.ntmps - vs.size) undef, defers := [] } none S (enter_rel hr hl) trivial
  refine (wpIn_mono hw fun e a' w' ⟨T', H', g', ds, ⟨ch, H'', he, h2, h3⟩, h4, h5, h6, h7, h8⟩ => ?_ : Code.wpIn Fence.wide 0 P c _ _ w)
  subst he
  have hleave : LeavesInM Fence.wide 0 P fn a'.tmps (fun e w' => ∃ c H' g', e = .panicked c ∧ Post c H' ∧ g.le g' ∧ Sim base w0 g' H' w') a'.defers (.panicking ch) w' := by
    rw [h7]
    refine leaves_marksU (n := fn.ntmps) (T := T') (gi := g) (by simp) (fun g2 w2 k1 k2 k3 => ?_) ds g' w' h5 h6 h4 h8
    obtain ⟨g3, k6, k7, _⟩ := h2 base w0 g g2 w2 undef S.dom S.bels k1 k2 (.val _)
    exact ⟨ch, H'', g3, rfl, h3, k6, k7⟩
  exact hleave

/-! ### a function that defers a call -/

def ATop (P : Program) (fn : Func) (H0 : Hp) (Post : AV → Hp → Prop) (c : Code) (T : Env) (H : Hp) : Prop :=
  ∀ (base : Nat) (w0 : World) (g0 g : Gh) (w : World) (a : Act), (∀ b x, g0.ph b = some x → b < H0.length) → (∀ (b : Nat) (ob : AObj), H0[b]? = some ob → ob ≠ .dead → BelO H0.length ob) →
    g0.le g → Sim base w0 g H w → TRel g fn.ntmps T a.tmps → Marks g0 g a.defers →
    c.wpIn Fence.wide 0 P (bodyPostM Fence.wide 0 P fn fun e w' => ∃ v a H' g', e = .returned v ∧ Post a H' ∧ g0.le g' ∧ Sim base w0 g' H' w' ∧ R g' a v) a w

theorem ACalls.of_top {f : FuncId} {fn : Func} {c : Code} {args : List AV} {Post : AV → Hp → Prop} (hf : P.funcs[f]? = some fn) (hb : fn.body = some c) (hcl : callable P f = true) (hl : args.length ≤ fn.ntmps)
    (h : ATop P fn H Post c (env0 args) H) : ACalls P f args H Post := by
  refine ⟨hcl, fun base w0 g w vs S hr => ?_⟩
  refine callsIn_of_wp_marks hf hb trivial ?_ rfl
  exact h base w0 g g w { tmps := vs ++ Array.replicate (fn.ntmps - vs.size) undef, defers := [] } S.dom S.bels (Gh.le.refl g) S (enter_rel hr hl) (Marks.nil _ _)

section top
variable {fn : Func} {H0 : Hp} {Post : AV → Hp → Prop}

/-- what is to be shown of the results, ahead of the way out -/
def resQ (P : Program) (fn : Func) (H0 : Hp) (Post : AV → Hp → Prop) (T : Env) (H : Hp) : Prop := ∃ vs a H', resL P T H fn.results.toList = some vs ∧ Vs H0 (oneOf vs) H a H' ∧ Post a H'

theorem leave_res {g0 g' : Gh} {T' : Env} {H' : Hp} {tmps : Array Value} {ds : List Deferred} (hd : ∀ b x, g0.ph b = some x → b < H0.length) (hbel : ∀ (b : Nat) (ob : AObj), H0[b]? = some ob → ob ≠ .dead → BelO H0.length ob)
    (h : resQ P fn H0 Post T' H') (hg : g0.le g') (S : Sim base w0 g' H' w') (hT : TRel g' fn.ntmps T' tmps) (hm : Marks g0 g' ds) :
    LeavesInM Fence.wide 0 P fn tmps (fun e w' => ∃ v a H' g', e = .returned v ∧ Post a H' ∧ g0.le g' ∧ Sim base w0 g' H' w' ∧ R g' a v) ds .returning w' := by
  obtain ⟨us, a, H'', h1, h2, h3⟩ := h
  refine leaves_marks (n := fn.ntmps) (T := T') (gi := g0) (fun g2 w2 k1 k2 k3 => ?_) ds g' w' S hT hg hm
  obtain ⟨z, k4, k5⟩ := results_run k2 k3 h1
  obtain ⟨g3, k6, k7, k8⟩ := h2 base w0 g0 g2 w2 z hd hbel k1 k2 k5
  exact ⟨z, k4, z, a, H'', g3, rfl, h3, k6, k7, k8⟩

theorem ATop.seq {x y : Code} (h : Awp P fn.ntmps none x T H (thenQ (fun T' H' => ATop P fn H0 Post y T' H') (bodyQ P fn H0 Post))) : ATop P fn H0 Post (.seq x y) T H := by
  intro base w0 g0 g w a hd hbel hg S hT hm
  refine wpIn_seq (wpIn_mono (h base w0 g w a none S hT trivial) fun e a' w' ⟨T', H', g', ds, h1, h2, h3, h4, h5, h6⟩ => ?_ : Code.wpIn Fence.wide 0 P x _ a w)
  have hm' : Marks g0 g' a'.defers := by rw [h5]; exact hm.append h6 hg h2
  cases e with
  | normal => exact h1 base w0 g0 g' w' a' hd hbel (hg.trans h2) h3 h4 hm'
  | ret =>
    obtain ⟨_, h1⟩ := h1
    exact leave_res hd hbel h1 (hg.trans h2) h3 h4 hm'
  | exit id => rcases h1.1 with h | h <;> cases h
  | goto l => rcases h1.1 with h | h <;> cases h
  | panic c => rcases h1.1 with h | h <;> cases h
  | outgrown => rcases h1.1 with h | h <;> cases h

theorem ATop.of {c : Code} (h : Awp P fn.ntmps none c T H (bodyQ P fn H0 Post)) : ATop P fn H0 Post c T H := by
  intro base w0 g0 g w a hd hbel hg S hT hm
  refine (wpIn_mono (h base w0 g w a none S hT trivial) fun e a' w' ⟨T', H', g', ds, ⟨he, h1⟩, h2, h3, h4, h5, h6⟩ => ?_ : Code.wpIn Fence.wide 0 P c _ a w)
  have hm' : Marks g0 g' a'.defers := by rw [h5]; exact hm.append h6 hg h2
  rcases he with rfl | rfl
  · exact leave_res hd hbel h1 (hg.trans h2) h3 h4 hm'
  · exact leave_res hd hbel h1 (hg.trans h2) h3 h4 hm'

/-- a deferred call of f, of a function that is in mode u -/
def ADef (P : Program) (f : FuncId) (args : List AV) (H : Hp) (u : FrameMode) (K : FrameMode → Hp → Prop) : Prop :=
  ∀ (base : Nat) (w0 : World) (g : Gh) (w : World) (vs : Array Value), Sim base w0 g H w → RCells g args vs →
    CallsDIn Fence.wide 0 P f vs u w fun e u' w' => ∃ v H' g', e = .returned v ∧ K u' H' ∧ g.le g' ∧ Sim base w0 g' H' w'

/-- with one call deferred -/
def defQ (P : Program) (fn : Func) (H0 : Hp) (Post : AV → Hp → Prop) (f : FuncId) (cap : List AV) : Exit → Env → Hp → Prop := fun e T H =>
  ∃ u, (((e = .normal ∨ e = .ret) ∧ u = .returning) ∨ ∃ c, e = .panic c ∧ u = .panicking c) ∧ ADef P f cap H u fun u' H' => settle u' = .returning ∧ resQ P fn H0 Post T H'

theorem ATop.defer {id : Nat} {ops : Array Oper} {rest : Code} {t : Tmp} {f : FuncId} {cap : List AV} {ty : TypeId} {pos : String} {aft : Array Edge} (mu : Nat → Bool) (m : Nat) (hs : ops.size = m + 1) (ho : ops[m]? = some ⟨none, .defer ⟨.value (.tmp t), #[], #[]⟩, ty, pos, aft, none⟩) (hcl : callable P f = true)
    (h : wpO P mu fn.ntmps none [] (ops.toList.take m) T H (fun T' H' => T' t = .fn (.func f) cap ∧ Awp P fn.ntmps none rest T' H' (defQ P fn H0 Post f cap))) : ATop P fn H0 Post (.seq (.region id ops false) rest) T H := by
  intro base w0 g0 g w a hd hbel hg S hT hm
  refine wpIn_seq ?_
  refine wpIn_region_list ?_
  have hlt : m < ops.toList.length := by simp; omega
  have hdrop : ops.toList.drop m = [⟨none, .defer ⟨.value (.tmp t), #[], #[]⟩, ty, pos, aft, none⟩] := by
    rw [List.drop_eq_getElem_cons hlt]
    have : ops.toList[m] = ⟨none, .defer ⟨.value (.tmp t), #[], #[]⟩, ty, pos, aft, none⟩ := by
      have := (Array.getElem?_eq_some_iff.1 ho).2
      simpa using this
    rw [this, List.drop_eq_nil_of_le (by simp; omega)]
  have hsplit : ops.toList = ops.toList.take m ++ ops.toList.drop m := (List.take_append_drop m _).symm
  have := wpO_soundM (P := P) (mu := mu) (n := fn.ntmps) (d := none) (ops := ops.toList) (more := ops.toList.drop m) (r := none) (base := base) (w0 := w0) (ds := a.defers) (g0 := g)
    (Q := Exit.then (rest.wpIn Fence.wide 0 P (bodyPostM Fence.wide 0 P fn fun e w' => ∃ v a H' g', e = .returned v ∧ Post a H' ∧ g0.le g' ∧ Sim base w0 g' H' w' ∧ R g' a v))
      (bodyPostM Fence.wide 0 P fn fun e w' => ∃ v a H' g', e = .returned v ∧ Post a H' ∧ g0.le g' ∧ Sim base w0 g' H' w' ∧ R g' a v))
    (K := fun T' H' => T' t = .fn (.func f) cap ∧ Awp P fn.ntmps none rest T' H' (defQ P fn H0 Post f cap))
    (fun T H g1 w1 a1 ⟨hk1, hk2⟩ hg1 S1 hT1 hd1 => by
      rw [hdrop]
      unfold wpListIn
      rw [if_pos (wanted_none rfl _)]
      have hslot := hT1.slot t
      rw [hk1] at hslot
      have hev : a1.eval (.tmp t) = a1.tmps.getD t undef := rfl
      generalize hfv : a1.tmps.getD t undef = fv at hslot
      cases hslot with
      | fn hy hcl' hcr =>
        rename_i us
        have hrun : (execOp a1.eval ⟨none, .defer ⟨.value (.tmp t), #[], #[]⟩, ty, pos, aft, none⟩).run P w1 = .ok (.defer { target := .fn (.func f) us, args := #[] }) w1 := by
          have hev' : a1.eval (.tmp t) = .func (.func f) #[] us := hev.trans hfv
          simp [execOp, resolve, Deferred.ofValue, hev']
        refine ⟨fun _ _ => trivial, ?_⟩
        have hex : Oper.semAt (FR none).round a1.eval ⟨none, .defer ⟨.value (.tmp t), #[], #[]⟩, ty, pos, aft, none⟩ = execOp a1.eval ⟨none, .defer ⟨.value (.tmp t), #[], #[]⟩, ty, pos, aft, none⟩ := rfl
        rw [hex, hrun, Oper.uponIn_defer]
        unfold wpListIn
        show rest.wpIn Fence.wide 0 P _ { tmps := a1.tmps, defers := { target := .fn (.func f) us, args := #[] } :: a1.defers } w1
        refine (wpIn_mono (hk2 base w0 g1 w1 { tmps := a1.tmps, defers := { target := .fn (.func f) us, args := #[] } :: a1.defers } none S1 hT1 trivial) fun e a' w' ⟨T', H', g', ds, ⟨u, hu, h1⟩, h2, h3, h4, h5, h6⟩ => ?_ : Code.wpIn Fence.wide 0 P rest _ _ w1)
        have hne : u ≠ .run := by
          rcases hu with ⟨_, rfl⟩ | ⟨c, _, rfl⟩ <;> simp
        have hlv : LeavesInM Fence.wide 0 P fn a'.tmps (fun e w' => ∃ v a H' g', e = .returned v ∧ Post a H' ∧ g0.le g' ∧ Sim base w0 g' H' w' ∧ R g' a v) a'.defers u w' := by
          rw [h5]
          refine leaves_marksU (n := fn.ntmps) (T := T') (gi := g1) hne (fun g2 w2 k1 k2 k3 => ?_) ds g' w' h3 h4 h2 h6
          refine ⟨hne, .inr ⟨fun h => by simp [Fence.wide] at h, .func f, us, f, us, rfl, ?_, fun _ _ => trivial, ?_⟩⟩
          · unfold callable at hcl
            split at hcl
            · rename_i fn' hfn
              simp only [Bool.and_eq_true, Bool.not_eq_true'] at hcl
              have hb : fn'.body ≠ none := by intro hb; simp [hb] at hcl
              have hne' : fn'.name ≠ "runtime.NumGoroutine" := by simpa using hcl.2
              simp [invoke, callFunc, hfn, hne', hb]
            · cases hcl
          · have hcap : RCells g2 cap us := ⟨hcl', fun i c v hc hv => (hcr i c v hc hv).mono k1⟩
            refine CallsDIn.mono (h1 base w0 g2 w2 us k2 hcap) fun e u' w3 ⟨v, H3, g3, q1, ⟨q2, q3⟩, q4, q5⟩ => ?_
            subst q1
            simp only
            rw [q2]
            have hm1 : Marks g0 g1 a1.defers := by rw [hd1]; exact ⟨fun d hd' => let ⟨r, e1, e2, e3⟩ := hm.mark d hd'; ⟨r, e1, hg1.mr r e2, e3⟩, hm.nodup⟩
            have hm3 : Marks g0 g3 a1.defers := ⟨fun d hd' => let ⟨r, e1, e2, e3⟩ := hm1.mark d hd'; ⟨r, e1, q4.mr r (k1.mr r e2), e3⟩, hm1.nodup⟩
            exact leave_res hd hbel q3 (((hg.trans hg1).trans k1).trans q4) q5 (k3.mono q4) hm3
        rcases hu with ⟨he, rfl⟩ | ⟨c, rfl, rfl⟩
        · rcases he with rfl | rfl
          · exact hlv
          · exact hlv
        · exact hlv)
    (ops.toList.take m) [] T H g w a (by rw [List.nil_append, ← hsplit]) (by simp) (Gh.le.refl g) S hT rfl h
  rw [← hsplit] at this
  exact this

end top

/-- a row that an object has never turns again, ahead of code -/
theorem Awp.freezeIn {c : Code} {s b len : Nat} {pre post : List AV} {es : List (List AV)} {t t' : TypeId} {Q : Exit → Env → Hp → Prop} (hsb : s ≠ b) (hs : H[s]? = some (.cells [pre ++ .msl b 0 len :: post] t)) (hb : H[b]? = some (.cells es t')) (hfit : len ≤ es.length)
    (h : Awp P n rd c T ((H.set b .dead).set s (.cells [pre ++ .rsl (es.take len) false :: post] t)) Q) : Awp P n rd c T H Q := by
  intro base w0 g w a r S hT hr
  obtain ⟨g', h1, h2, _⟩ := Vs.freezeIn (H0 := H) (a := .val undef) hsb hs hb hfit base w0 g g w undef S.dom S.bels (Gh.le.refl g) S (.val _)
  refine wpIn_mono (h base w0 g' w a r h2 (hT.mono h1) (hr.mono h1)) fun e a2 w2 ⟨T2, H2, g2, ds, k1, k2, k3, k4, k5, k6⟩ => ?_
  exact ⟨T2, H2, g2, ds, k1, h1.trans k2, k3, k4, k5, by simpa using (Marks.nil g g').append k6 h1 k2⟩

/-! ### panic(x), x a constant -/

def plainT (P : Program) (d : TypeId) : Bool :=
  match P.underlying d with
  | some (.interface _) => false
  | some _ => true
  | none => false

theorem OpOK.iface {dst : Option Tmp} {d : TypeId} {x : Operand} {ty : TypeId} {pos : String} {aft : Array Edge} {u : Value} (hp : plainT P d = true) (he : evA T x = .val u) :
    OpOK P ⟨dst, .makeInterface d x, ty, pos, aft, none⟩ T H fun v H' => v = .val (.iface d u) ∧ H' = H := by
  intro base w0 g w a r S hr next Q hn
  have hx := hr x (by simp [Op.operands])
  rw [he] at hx
  generalize hv : a.eval x = v at hx
  cases hx
  have hex : Oper.semAt (FR r).round a.eval ⟨dst, .makeInterface d x, ty, pos, aft, none⟩ = execOp a.eval ⟨dst, .makeInterface d x, ty, pos, aft, none⟩ := Oper.semAt_eq _ _ _ (by intro c hc; cases hc)
  refine ⟨fun _ _ => trivial, ?_⟩
  have hrun : (execOp a.eval ⟨dst, .makeInterface d x, ty, pos, aft, none⟩).run P w = .ok (.value (.iface d u)) w := by
    unfold plainT at hp
    cases hu : P.underlying d with
    | none => rw [hu] at hp; cases hp
    | some td =>
      rw [hu] at hp
      cases td <;> first | (cases hp; done) | simp [execOp, hv, Instr.makeInterface, Sem.run_bind, run_underlying hu]
  rw [hex, hrun]
  exact hn _ _ H g w ⟨rfl, rfl⟩ (Gh.le.refl g) S (.val _)

theorem Awp.raise {id : Nat} {ops : Array Oper} {Q : Exit → Env → Hp → Prop} {t : Tmp} {d : TypeId} {x : Operand} {ty ty' : TypeId} {pos pos' : String} {aft aft' : Array Edge} {u : Value}
    (ho : ops = #[⟨some t, .makeInterface d x, ty, pos, aft, none⟩, ⟨none, .panic (.tmp t), ty', pos', aft', none⟩]) (hp : plainT P d = true) (hd : dstOk n (some t) = true) (he : evA T x = .val u)
    (h : Q (.panic [{ v := .iface d u, recovered := false }]) (upd T t (.val (.iface d u))) H) : Awp P n rd (.region id ops false) T H Q := by
  subst ho
  intro base w0 g w a r S hT hr
  refine wpIn_region_list ?_
  unfold wpListIn
  rw [if_pos (wanted_none rfl _)]
  refine (OpOK.iface hp he) base w0 g w a r S (fun x _ => evA_rel hT x) _ _ (fun v z H' g' w' hk hg' S' hR => ?_)
  obtain ⟨rfl, rfl⟩ := hk
  unfold wpListIn
  rw [if_pos (wanted_none rfl _)]
  have hT' : TRel g' n (upd T t (.val (.iface d u))) (a.put (some t) z).tmps := (hT.mono hg').put hd hR
  refine OpPan.panic (o := ⟨none, .panic (.tmp t), ty', pos', aft', none⟩) (T := upd T t (.val (.iface d u))) (k := fun c H2 => c = [{ v := .iface d u, recovered := false }] ∧ H2 = H') rfl ?_ ⟨rfl, rfl⟩ base w0 g' w' _ r S' (fun x _ => evA_rel hT' x) _ _ fun c H'' g'' w'' hq hg'' S'' => ?_
  · simp [evA, upd]
  · obtain ⟨rfl, rfl⟩ := hq
    exact ⟨_, _, g'', [], h, hg'.trans hg'', S'', hT'.mono hg'', rfl, Marks.nil _ _⟩

theorem thenQ_p {k : Env → Hp → Prop} {Q : Exit → Env → Hp → Prop} {c : List PanicEntry} (h : Q (.panic c) T H) : thenQ k Q (.panic c) T H := h
theorem blockQ_p {id : Nat} {Q : Exit → Env → Hp → Prop} {c : List PanicEntry} (h : Q (.panic c) T H) : blockQ id Q (.panic c) T H := h

end Go.Proofs.Ytehagceghnjamaa.Ab
namespace Go.Proofs.Ytehagceghnjamaa.Ab
open Go Go.RowKit

variable {base : Nat} {w0 w w' : World} {g : Gh} {H : Hp} {P : Program}

def drawOkX (mu : Nat → Bool) (W : Draw) (ops : Array Oper) (bs : List Nat) (p : Nat) : Bool :=
  (List.range ops.size).all fun i => match ops[i]? with
    | none => false
    | some x =>
      x.after.all (fun e => !Region.binds .any e || decide (e.on < i)) &&
      (match x.op with | .select .. => false | _ => true) &&
      (List.range ops.size).all fun j => match ops[j]? with
        | none => false
        | some y =>
          (!(bs.getD i 0).testBit j || x.after.any (fun e => Region.binds .any e && (e.on == j || (bs.getD e.on 0).testBit j))) &&
          (!decide (i < j) || (bs.getD j 0).testBit i || (x.apart ops y && (!confl mu W i j x y || (i == p && j == p + 1))))

structure DrawnX (mu : Nat → Bool) (W : Draw) (ops : Array Oper) (bs : List Nat) (p : Nat) : Prop where
  back : ∀ (i : Nat) (x : Oper), ops[i]? = some x → ∀ e ∈ x.after, Region.binds .any e = true → e.on < i
  cert : ∀ (i j : Nat) (x : Oper), ops[i]? = some x → j < ops.size → (bs.getD i 0).testBit j = true → ∃ e ∈ x.after, Region.binds .any e = true ∧ (e.on = j ∨ (bs.getD e.on 0).testBit j = true)
  free : ∀ (i j : Nat) (x y : Oper), ops[i]? = some x → ops[j]? = some y → i < j → (bs.getD j 0).testBit i = true ∨ (x.apart ops y = true ∧ confl mu W i j x y = false) ∨ (i = p ∧ j = p + 1 ∧ x.apart ops y = true)

theorem drawOkX_spec {mu : Nat → Bool} {W : Draw} {ops : Array Oper} {bs : List Nat} {p : Nat} (h : drawOkX mu W ops bs p = true) : DrawnX mu W ops bs p := by
  unfold drawOkX at h
  rw [List.all_eq_true] at h
  have hi : ∀ (i : Nat) (x : Oper), ops[i]? = some x → i < ops.size := fun i x hx => (Array.getElem?_eq_some_iff.1 hx).1
  refine ⟨fun i x hx e he hb => ?_, fun i j x hx hj ht => ?_, fun i j x y hx hy hij => ?_⟩
  · have := h i (List.mem_range.2 (hi i x hx))
    rw [hx] at this
    simp only [Bool.and_eq_true] at this
    have := Array.all_eq_true_iff_forall_mem.1 this.1.1 e he
    simpa [hb] using this
  · have := h i (List.mem_range.2 (hi i x hx))
    rw [hx] at this
    simp only [Bool.and_eq_true] at this
    have := List.all_eq_true.1 this.2 j (List.mem_range.2 hj)
    have hy : ops[j]? = some ops[j] := Array.getElem?_eq_getElem hj
    rw [hy] at this
    simp only [Bool.and_eq_true, ht, Bool.not_true, Bool.false_or, Array.any_eq_true'] at this
    obtain ⟨e, he, h1⟩ := this.1
    simp only [Bool.or_eq_true, beq_iff_eq] at h1
    exact ⟨e, he, h1.1, h1.2⟩
  · have := h i (List.mem_range.2 (hi i x hx))
    rw [hx] at this
    simp only [Bool.and_eq_true] at this
    have := List.all_eq_true.1 this.2 j (List.mem_range.2 (hi j y hy))
    rw [hy] at this
    simp only [Bool.and_eq_true, Bool.or_eq_true, Bool.not_eq_true', decide_eq_false_iff_not, beq_iff_eq] at this
    rcases this.2 with (h1 | h1) | ⟨h1, h2 | ⟨h2, h3⟩⟩
    · exact absurd hij h1
    · exact .inl h1
    · exact .inr (.inl ⟨h1, h2⟩)
    · exact .inr (.inr ⟨h2, h3, h1⟩)

section main
variable {ops : Array Oper} {T0 : Env} {H0 : Hp} {Ts : Nat → Env} {Hs : Nat → Hp} {vs : Nat → AV} {W : Draw} {mu : Nat → Bool} {n : Nat} {bs : List Nat} {p : Nat} {r : Option Nat} {Q : Exit → Act → World → Prop} {ds : List Deferred} {g0 : Gh} {K : Env → Hp → Prop}

def Shut (ops : Array Oper) (bs : List Nat) (listed : Array Bool) : Prop := ∀ i j, i < ops.size → j < ops.size → listed.getD i false = true → (bs.getD i 0).testBit j = true → listed.getD j false = true
def Room (ops : Array Oper) (listed : Array Bool) (fuel : Nat) : Prop := ∀ S : List Nat, S.Nodup → (∀ i ∈ S, i < ops.size ∧ listed.getD i false = false) → S.length ≤ fuel

theorem ready_of {listed : Array Bool} {i : Nat} (hsz : listed.size = ops.size) (hi : i ∈ Region.ready .any ops listed) : i < ops.size ∧ listed.getD i false = false ∧ ∃ o, ops[i]? = some o ∧ ∀ e ∈ o.after, Region.binds .any e = true → listed.getD e.on false = true := by
  rw [mem_ready] at hi
  obtain ⟨hli0, o, ho, hedges⟩ := hi
  have hlt : i < ops.size := (Array.getElem?_eq_some_iff.1 ho).1
  refine ⟨hlt, ?_, o, ho, hedges⟩
  rw [Array.getD_eq_getD_getElem?, Array.getElem?_eq_getElem (by omega), Option.getD_some] at hli0 ⊢
  exact hli0

theorem set_getD {listed : Array Bool} {i : Nat} (hsz : listed.size = ops.size) (hlt : i < ops.size) (j : Nat) : (listed.setIfInBounds i true).getD j false = setL (fun i => listed.getD i false) i j := by
  unfold setL
  by_cases hj : j = i
  · subst hj
    rw [if_pos rfl, Array.getD_eq_getD_getElem?, Array.getElem?_setIfInBounds, if_pos rfl, if_pos (by omega)]
    rfl
  · rw [if_neg hj, getD_set_ne _ (Ne.symm hj)]

theorem Shut.set (D : DrawnX mu W ops bs p) {listed : Array Bool} {i : Nat} (hsz : listed.size = ops.size) (hcl : Shut ops bs listed) (hi : i ∈ Region.ready .any ops listed) : Shut ops bs (listed.setIfInBounds i true) := by
  obtain ⟨hlt, hli, o, ho, hedges⟩ := ready_of hsz hi
  have hanc : ∀ j, j < ops.size → (bs.getD i 0).testBit j = true → listed.getD j false = true := by
    intro j hj ht
    obtain ⟨e, he, hb, h | h⟩ := D.cert i j o ho hj ht
    · subst h; exact hedges e he hb
    · exact hcl e.on j (by have := D.back i o ho e he hb; omega) hj (hedges e he hb) h
  intro k j hk hj hl ht
  rw [set_getD hsz hlt] at hl ⊢
  unfold setL at hl ⊢
  by_cases hji : j = i
  · rw [if_pos hji]
  · rw [if_neg hji]
    by_cases hki : k = i
    · subst hki; exact hanc j hj ht
    · rw [if_neg hki] at hl; exact hcl k j hk hj hl ht

theorem Room.set {listed : Array Bool} {i fuel : Nat} (hsz : listed.size = ops.size) (hcnt : Room ops listed (fuel + 1)) (hi : i ∈ Region.ready .any ops listed) : Room ops (listed.setIfInBounds i true) fuel := by
  obtain ⟨hlt, hli, _⟩ := ready_of hsz hi
  intro S hS hk
  have := hcnt (i :: S) (List.nodup_cons.2 ⟨fun hm => by have := (hk i hm).2; rw [set_getD hsz hlt] at this; simp [setL] at this, hS⟩) (fun k hkm => by
    rcases List.mem_cons.1 hkm with rfl | hkm
    · exact ⟨hlt, hli⟩
    · have h1 := hk k hkm
      refine ⟨h1.1, ?_⟩
      have h2 := h1.2
      rw [set_getD hsz hlt] at h2
      unfold setL at h2
      by_cases hki : k = i
      · rw [if_pos hki] at h2; cases h2
      · rw [if_neg hki] at h2; exact h2)
  simp at this
  omega

abbrev Trace (P : Program) (mu : Nat → Bool) (n : Nat) (W : Draw) (ops : Array Oper) (Ts : Nat → Env) (Hs : Nat → Hp) (vs : Nat → AV) : Prop :=
  ∀ (i : Nat) (o : Oper), ops[i]? = some o → StepR P mu n W i (ops.toList.map (·.dst)) o (Ts i) (Hs i) (vs i) (Ts (i + 1)) (Hs (i + 1))

theorem any_stepX (D : DrawnX mu W ops bs p) (t0 : Ts 0 = T0) (h0 : Hs 0 = H0) (hst : Trace P mu n W ops Ts Hs vs) {fuel : Nat} {listed : Array Bool} {w : World} {a : Act} {i : Nat}
    (hsz : listed.size = ops.size) (hcl : Shut ops bs listed) (hpq : listed.getD (p + 1) false = true → listed.getD p false = true) (hi : i ∈ Region.ready .any ops listed) (hip : i = p + 1 → listed.getD p false = true)
    (hg : g0.le g) (S : Sim base w0 g (Hc H0 Hs W.ev (fun i => listed.getD i false) ops.size) w) (hT : TRel g n (Tc ops T0 vs (fun i => listed.getD i false) ops.size) a.tmps) (hd : a.defers = ds)
    (ih : ∀ g' w' a', g0.le g' → Sim base w0 g' (Hc H0 Hs W.ev (fun j => (listed.setIfInBounds i true).getD j false) ops.size) w' → TRel g' n (Tc ops T0 vs (fun j => (listed.setIfInBounds i true).getD j false) ops.size) a'.tmps → a'.defers = ds →
      wpAnyIn (FR r) 0 P .any ops Q fuel (listed.setIfInBounds i true) a' w') :
    wpOpIn (FR r) 0 P ops Q i (wpAnyIn (FR r) 0 P .any ops Q fuel (listed.setIfInBounds i true)) a w := by
  have hdsts : ∀ (j : Nat) (s : Tmp), (ops.toList.map (·.dst))[j]? = some (some s) → (ops[j]?).bind (·.dst) = some s ∧ s < n := by
    intro j s hs
    rw [List.getElem?_map, Option.map_eq_some_iff] at hs
    obtain ⟨o, ho, hd⟩ := hs
    have ho' : ops[j]? = some o := by simpa using ho
    refine ⟨by rw [ho']; exact hd, ?_⟩
    have := (hst j o ho').dst
    rw [hd] at this
    simpa [dstOk] using this
  rw [mem_ready] at hi
  obtain ⟨hli0, o, ho, hedges⟩ := hi
  have hlt : i < ops.size := (Array.getElem?_eq_some_iff.1 ho).1
  have hli : listed.getD i false = false := by
    rw [Array.getD_eq_getD_getElem?, Array.getElem?_eq_getElem (by omega), Option.getD_some] at hli0 ⊢
    exact hli0
  -- what stands before i has been done
  have hanc : ∀ j, j < ops.size → (bs.getD i 0).testBit j = true → listed.getD j false = true := by
    intro j hj ht
    obtain ⟨e, he, hb, h | h⟩ := D.cert i j o ho hj ht
    · subst h; exact hedges e he hb
    · exact hcl e.on j (by have := D.back i o ho e he hb; omega) hj (hedges e he hb) h
  have hlater : ∀ j, j < ops.size → (bs.getD j 0).testBit i = true → listed.getD j false = false := by
    intro j hj ht
    cases hl : listed.getD j false with
    | false => rfl
    | true => rw [hcl j i hj hlt hl ht] at hli; cases hli
  have hslot : ∀ t, t ∈ o.looksAt ops → Tc ops T0 vs (fun i => listed.getD i false) ops.size t = Ts i t := by
    intro t ht
    have h1 := Tc_upto (L := fun i => listed.getD i false) (T0 := T0) t0 hst t i (by omega) (fun j x hj hx hxd => by
      rcases D.free j i x o hx ho hj with h | ⟨h, _⟩ | ⟨_, _, h⟩
      · exact hanc j (by omega) h
      · exact absurd ht ((Oper.apart_spec h).1 t hxd)
      · exact absurd ht ((Oper.apart_spec h).1 t hxd))
    have h2 := Tc_from (ops := ops) (T0 := T0) (vs := vs) (L := fun i => listed.getD i false) t i (ops.size - i) (fun j x hj hj' hx hxd => by
      rcases Nat.eq_or_lt_of_le hj with rfl | hj
      · exact hli
      · rcases D.free i j o x ho hx hj with h | ⟨h, _⟩ | ⟨_, _, h⟩
        · exact hlater j (by omega) h
        · exact absurd ht ((Oper.apart_spec h).2.2 t hxd)
        · exact absurd ht ((Oper.apart_spec h).2.2 t hxd))
    rw [show i + (ops.size - i) = ops.size by omega] at h2
    rw [h2, h1]
  have hheap : (W.ev i = true ∨ (isP mu o || W.rf i) = false) → Hc H0 Hs W.ev (fun i => listed.getD i false) ops.size = Hs i := by
    intro hc
    have h1 := Hc_upto (L := fun i => listed.getD i false) h0 hst i (by omega) (fun j hj hev => by
      have hx : ops[j]? = some ops[j] := Array.getElem?_eq_getElem (by omega)
      rcases D.free j i _ o hx ho hj with h | ⟨_, h⟩ | ⟨h1, h2, _⟩
      · exact hanc j (by omega) h
      · rcases hc with hc | hc <;> simp [confl, hev, hc] at h
      · rw [h1]; exact hip h2)
    have h2 := Hc_from (H0 := H0) (Hs := Hs) (W := W) (L := fun i => listed.getD i false) i (ops.size - i) (fun j hj hj' hev => by
      rcases Nat.eq_or_lt_of_le hj with rfl | hj
      · exact hli
      · have hx : ops[j]? = some ops[j] := Array.getElem?_eq_getElem (by omega)
        rcases D.free i j o _ ho hx hj with h | ⟨_, h⟩ | ⟨h1, h2, _⟩
        · exact hlater j (by omega) h
        · rcases hc with hc | hc <;> simp [confl, hev, hc] at h
        · cases hl : listed.getD j false with
          | false => rfl
          | true => rw [h2] at hl; rw [h1] at hli; rw [hpq hl] at hli; cases hli)
    rw [show i + (ops.size - i) = ops.size by omega] at h2
    rw [h2, h1]
  obtain ⟨hdst, hput, b, hgd, hyes, hno⟩ := hst i o ho
  have hops : ∀ x ∈ o.op.operands, evA (Ts i) x = evA (Tc ops T0 vs (fun i => listed.getD i false) ops.size) x := by
    intro x hx
    refine evA_congr fun t e => ?_
    subst e
    exact (hslot t (List.mem_append_left _ (List.mem_filterMap.2 ⟨.tmp t, by simpa using hx, rfl⟩))).symm
  have hgd' : guardA (ops.toList.map (·.dst)) o.guard (Tc ops T0 vs (fun i => listed.getD i false) ops.size) = some b := by
    rw [← hgd]
    cases hgu : o.guard with
    | none => rfl
    | some p =>
      obtain ⟨j, want⟩ := p
      simp only [guardA]
      cases hq : (ops.toList.map (·.dst))[j]? with
      | none => rfl
      | some q =>
        cases q with
        | none => rfl
        | some s =>
          have hs := (hdsts j s hq).1
          simp only
          rw [hslot s (List.mem_append_right _ (by rw [hgu]; simp [hs]))]
  have hwant := guardA_wanted2 (ops := ops) hT hdsts hgd'
  -- the listed ones, with i
  have hset : ∀ j, (listed.setIfInBounds i true).getD j false = setL (fun i => listed.getD i false) i j := by
    intro j
    unfold setL
    by_cases hj : j = i
    · subst hj
      rw [if_pos rfl, Array.getD_eq_getD_getElem?, Array.getElem?_setIfInBounds, if_pos rfl, if_pos (by omega)]
      rfl
    · rw [if_neg hj, getD_set_ne _ (Ne.symm hj)]
  have hsetf : (fun j => (listed.setIfInBounds i true).getD j false) = setL (fun i => listed.getD i false) i := funext hset
  have hTc : Tc ops T0 vs (setL (fun i => listed.getD i false) i) ops.size = putA (Tc ops T0 vs (fun i => listed.getD i false) ops.size) o.dst (vs i) := by
    funext t
    have h1 := Tc_setL (T0 := T0) (vs := vs) (L := fun i => listed.getD i false) ho hli t (ops.size - (i + 1)) (fun j x hj hj' hx hl hod hxd => by
      rcases D.free i j o x ho hx hj with h | ⟨h, _⟩ | ⟨_, _, h⟩
      · have h2 := hlater j (by omega) h
        have hl : listed.getD j false = true := hl
        rw [h2] at hl; cases hl
      · exact (Oper.apart_spec h).2.1 t hod hxd
      · exact (Oper.apart_spec h).2.1 t hod hxd)
    rw [show i + 1 + (ops.size - (i + 1)) = ops.size by omega] at h1
    rw [h1]
    by_cases hod : o.dst = some t
    · rw [if_pos hod, hod, putA_eq]
    · rw [if_neg hod, putA_ne hod]
  have hHc : Hc H0 Hs W.ev (setL (fun i => listed.getD i false) i) ops.size = if W.ev i then Hs (i + 1) else Hc H0 Hs W.ev (fun i => listed.getD i false) ops.size := by
    have h1 := Hc_setL (H0 := H0) (Hs := Hs) (W := W) (L := fun i => listed.getD i false) hli (ops.size - (i + 1)) (fun j hj hj' hl hei => by
      have hx : ops[j]? = some ops[j] := Array.getElem?_eq_getElem (by omega)
      rcases D.free i j o _ ho hx hj with h | ⟨_, h⟩ | ⟨h1, h2, _⟩
      · have h2 := hlater j (by omega) h
        have hl : listed.getD j false = true := hl
        rw [h2] at hl; cases hl
      · cases hej : W.ev j with
        | false => rfl
        | true => simp [confl, hei, hej] at h
      · have hl : listed.getD j false = true := hl
        rw [h2] at hl; rw [h1] at hli; rw [hpq hl] at hli; cases hli)
    rw [show i + 1 + (ops.size - (i + 1)) = ops.size by omega] at h1
    exact h1
  have hdef : ∀ z, (a.put o.dst z).defers = ds := by intro z; rw [← hd]; cases o.dst <;> rfl
  have go : ∀ z H' g' w', H' = (if W.ev i then Hs (i + 1) else Hc H0 Hs W.ev (fun i => listed.getD i false) ops.size) → g.le g' → Sim base w0 g' H' w' → R g' (vs i) z →
      wpAnyIn (FR r) 0 P .any ops Q fuel (listed.setIfInBounds i true) (a.put o.dst z) w' := by
    intro z H' g' w' hH hg' S' hR
    refine ih g' w' _ (hg.trans hg') ?_ ?_ (hdef z)
    · rw [hsetf, hHc, ← hH]; exact S'
    · rw [hsetf, hTc]; exact (hT.mono hg').put hdst hR
  unfold wpOpIn
  rw [ho]
  simp only
  cases b with
  | true =>
    rw [if_pos hwant]
    obtain ⟨hp, hsame⟩ := hyes rfl
    have hp' := hp.congr hops
    have hperf : PerfTo P mu o (Tc ops T0 vs (fun i => listed.getD i false) ops.size) (Hc H0 Hs W.ev (fun i => listed.getD i false) ops.size) (vs i) (if W.ev i then Hs (i + 1) else Hc H0 Hs W.ev (fun i => listed.getD i false) ops.size) := by
      cases hev : W.ev i with
      | true =>
        rw [if_pos rfl, hheap (.inl hev)]
        exact hp'
      | false =>
        rw [if_neg (by simp)]
        cases hpp : isP mu o with
        | true => exact hp'.any hpp _
        | false =>
          cases hrf : W.rf i with
          | true => exact (hsame.2.2 hrf _ (Hc_agree h0 hst _ (Nat.le_refl _) i (by omega))).congr hops
          | false =>
            rw [hheap (.inr (by rw [hpp, hrf]; rfl))]
            rw [hsame.1 hev] at hp'
            exact hp'
    refine hperf.ok base w0 g w a r S (fun x _ => evA_rel hT x) _ _ (fun v z H' g' w' hk hg' S' hR => ?_)
    obtain ⟨rfl, rfl⟩ := hk
    exact go z _ g' w' rfl hg' S' hR
  | false =>
    rw [if_neg (by rw [hwant]; simp)]
    obtain ⟨hv, hH⟩ := hno rfl
    refine ⟨fun _ _ => trivial, ?_⟩
    refine go undef _ g w ?_ (Gh.le.refl g) S (by rw [hv]; exact .val _)
    cases hev : W.ev i with
    | true => rw [if_pos rfl, hH]; exact hheap (.inl hev)
    | false => rw [if_neg (by simp)]

theorem all_listed (D : DrawnX mu W ops bs p) {listed : Array Bool} (hsz : listed.size = ops.size) (hr : Region.ready .any ops listed = []) : ∀ i, i < ops.size → listed.getD i false = true := by
  intro i
  induction i using Nat.strongRecOn with
  | _ i ih =>
    intro hi
    cases hl : listed.getD i false with
    | true => rfl
    | false =>
      exfalso
      have hmem : i ∈ Region.ready .any ops listed := by
        rw [mem_ready]
        have ho : ops[i]? = some ops[i] := Array.getElem?_eq_getElem hi
        refine ⟨?_, ops[i], ho, fun e he hb => ?_⟩
        · rw [Array.getD_eq_getD_getElem?, Array.getElem?_eq_getElem (by omega), Option.getD_some] at hl ⊢
          exact hl
        · have := D.back i _ ho e he hb
          exact ih e.on this (by omega)
      rw [hr] at hmem
      cases hmem

theorem any_soundX (D : DrawnX mu W ops bs p) (t0 : Ts 0 = T0) (h0 : Hs 0 = H0) (hst : Trace P mu n W ops Ts Hs vs) (hK : K (Ts ops.size) (Hs ops.size))
    (hQ : ∀ T H g w a, K T H → g0.le g → Sim base w0 g H w → TRel g n T a.tmps → a.defers = ds → Q .normal a w) :
    ∀ (fuel : Nat) (listed : Array Bool) (g : Gh) (w : World) (a : Act), listed.size = ops.size → Shut ops bs listed → Room ops listed fuel → (listed.getD (p + 1) false = true → listed.getD p false = true) →
      (listed.getD p false = true ∨ ∀ (fuel : Nat) (listed : Array Bool) (g : Gh) (w : World) (a : Act), listed.size = ops.size → Shut ops bs listed → Room ops listed (fuel + 1) → listed.getD p false = false → listed.getD (p + 1) false = false → (p + 1) ∈ Region.ready .any ops listed →
        g0.le g → Sim base w0 g (Hc H0 Hs W.ev (fun i => listed.getD i false) ops.size) w → TRel g n (Tc ops T0 vs (fun i => listed.getD i false) ops.size) a.tmps → a.defers = ds →
        wpOpIn (FR r) 0 P ops Q (p + 1) (wpAnyIn (FR r) 0 P .any ops Q fuel (listed.setIfInBounds (p + 1) true)) a w) →
      g0.le g → Sim base w0 g (Hc H0 Hs W.ev (fun i => listed.getD i false) ops.size) w → TRel g n (Tc ops T0 vs (fun i => listed.getD i false) ops.size) a.tmps → a.defers = ds →
      wpAnyIn (FR r) 0 P .any ops Q fuel listed a w := by
  have alldone : ∀ (listed : Array Bool) (g : Gh) (w : World) (a : Act), listed.size = ops.size → Region.ready .any ops listed = [] → g0.le g → Sim base w0 g (Hc H0 Hs W.ev (fun i => listed.getD i false) ops.size) w →
      TRel g n (Tc ops T0 vs (fun i => listed.getD i false) ops.size) a.tmps → a.defers = ds → Q .normal a w := by
    intro listed g w a hsz hr hg S hT hd
    have hall := all_listed D hsz hr
    have eT : Tc ops T0 vs (fun i => listed.getD i false) ops.size = Ts ops.size := by
      funext t
      exact Tc_upto t0 hst t ops.size (Nat.le_refl _) (fun j o hj _ _ => hall j hj)
    have eH : Hc H0 Hs W.ev (fun i => listed.getD i false) ops.size = Hs ops.size := Hc_upto h0 hst ops.size (Nat.le_refl _) (fun j hj _ => hall j hj)
    rw [eT] at hT
    rw [eH] at S
    exact hQ _ _ g w a hK hg S hT hd
  intro fuel
  induction fuel with
  | zero =>
    intro listed g w a hsz hcl hcnt hpq hesc hg S hT hd
    have hr : Region.ready .any ops listed = [] := by
      apply List.eq_nil_iff_forall_not_mem.2
      intro i hi
      obtain ⟨hlt, hli, _⟩ := ready_of hsz hi
      have := hcnt [i] (by simp) (by
        intro j hj
        simp only [List.mem_singleton] at hj
        subst hj
        exact ⟨hlt, hli⟩)
      simp at this
    exact ⟨hr, alldone listed g w a hsz hr hg S hT hd⟩
  | succ fuel ih =>
    intro listed g w a hsz hcl hcnt hpq hesc hg S hT hd
    refine ⟨fun hr => alldone listed g w a hsz hr hg S hT hd, fun i hi => ?_⟩
    obtain ⟨hlt, hli, _⟩ := ready_of hsz hi
    by_cases hip : i = p + 1 ∧ listed.getD p false = false
    · obtain ⟨rfl, hp⟩ := hip
      rcases hesc with h | h
      · rw [hp] at h; cases h
      · exact h fuel listed g w a hsz hcl hcnt hp hli hi hg S hT hd
    · refine any_stepX D t0 h0 hst hsz hcl hpq hi (fun e => ?_) hg S hT hd fun g' w' a' hg' S' hT' hd' => ?_
      · cases h : listed.getD p false with
        | true => rfl
        | false => exact absurd ⟨e, h⟩ hip
      · refine ih _ g' w' a' (by simpa using hsz) (hcl.set D hsz hi) (hcnt.set hsz hi) ?_ ?_ hg' S' hT' hd'
        · intro h
          rw [set_getD hsz hlt] at h ⊢
          unfold setL at h ⊢
          by_cases e1 : p = i
          · rw [if_pos e1]
          · rw [if_neg e1]
            by_cases e2 : p + 1 = i
            · show listed.getD p false = true
              cases hp : listed.getD p false with
              | true => rfl
              | false => exact absurd ⟨e2.symm, hp⟩ hip
            · rw [if_neg e2] at h; exact hpq h
        · rcases hesc with h | h
          · left
            rw [set_getD hsz hlt]
            unfold setL
            split
            · rfl
            · exact h
          · exact .inr h

end main

/-! ### the two the other way round -/

def swapI (p i : Nat) : Nat := if i = p then p + 1 else if i = p + 1 then p else i

theorem swapI_swapI (p i : Nat) : swapI p (swapI p i) = i := by
  unfold swapI
  split <;> (split <;> (try split) <;> omega)

theorem swapI_lt {p i m : Nat} (hp : p + 1 < m) (hi : i < m) : swapI p i < m := by
  unfold swapI
  split
  · omega
  · split <;> omega

def reEdge (p : Nat) (o : Oper) : Oper := { o with after := o.after.map fun e => { e with on := swapI p e.on } }

def swapOps (p : Nat) (ops : Array Oper) : Array Oper := ((List.range ops.size).map fun i => match ops[swapI p i]? with | some o => reEdge p o | none => default).toArray

theorem swapOps_size (p : Nat) (ops : Array Oper) : (swapOps p ops).size = ops.size := by simp [swapOps]

theorem swapOps_get {p : Nat} {ops : Array Oper} (hp : p + 1 < ops.size) {i : Nat} {o : Oper} (h : ops[i]? = some o) : (swapOps p ops)[swapI p i]? = some (reEdge p o) := by
  have hi : i < ops.size := (Array.getElem?_eq_some_iff.1 h).1
  have hs := swapI_lt hp hi
  unfold swapOps
  simp only [List.getElem?_toArray, List.getElem?_map, List.getElem?_range hs, Option.map_some, swapI_swapI, h]

section swap
variable {ops : Array Oper} {p : Nat} {r : Option Nat} {Q : Exit → Act → World → Prop}

theorem ready_swap (hp : p + 1 < ops.size) {l lB : Array Bool} (hl : l.size = ops.size) (hlB : lB.size = ops.size) (hrel : ∀ i, lB.getD (swapI p i) false = l.getD i false) (i : Nat) :
    i ∈ Region.ready .any ops l ↔ swapI p i ∈ Region.ready .any (swapOps p ops) lB := by
  have conv : ∀ {l : Array Bool} {j : Nat}, l.size = ops.size → j < ops.size → l.getD j true = l.getD j false := by
    intro l j hl hj
    rw [Array.getD_eq_getD_getElem?, Array.getD_eq_getD_getElem?, Array.getElem?_eq_getElem (by omega)]
    rfl
  rw [mem_ready, mem_ready]
  constructor
  · rintro ⟨h1, o, ho, h2⟩
    have hi : i < ops.size := (Array.getElem?_eq_some_iff.1 ho).1
    refine ⟨?_, _, swapOps_get hp ho, fun e he hb => ?_⟩
    · rw [conv hlB (swapI_lt hp hi), hrel, ← conv hl hi]; exact h1
    · simp only [reEdge, Array.mem_map] at he
      obtain ⟨e', he', rfl⟩ := he
      show lB.getD (swapI p e'.on) false = true
      rw [hrel]
      exact h2 e' he' hb
  · rintro ⟨h1, o, ho, h2⟩
    have hsi : swapI p i < ops.size := by
      have := (Array.getElem?_eq_some_iff.1 ho).1
      rwa [swapOps_size] at this
    have hi : i < ops.size := by
      have := swapI_lt hp hsi
      rwa [swapI_swapI] at this
    have ho' : ops[i]? = some ops[i] := Array.getElem?_eq_getElem hi
    have := swapOps_get hp ho'
    rw [this] at ho
    cases ho
    refine ⟨?_, _, ho', fun e he hb => ?_⟩
    · rw [conv hl hi, ← hrel, ← conv hlB hsi]; exact h1
    · rw [← hrel]
      exact h2 { e with on := swapI p e.on } (by simp only [reEdge, Array.mem_map]; exact ⟨e, he, rfl⟩) hb

theorem op_swap (hp : p + 1 < ops.size) (hgd : ∀ (i : Nat) (o : Oper), ops[i]? = some o → o.guard = none) {i : Nat} {Kb K : Act → World → Prop} {a : Act} {w : World} (hi : i < ops.size) (hK : ∀ a w, Kb a w → K a w)
    (h : wpOpIn (FR r) 0 P (swapOps p ops) Q (swapI p i) Kb a w) : wpOpIn (FR r) 0 P ops Q i K a w := by
  have ho : ops[i]? = some ops[i] := Array.getElem?_eq_getElem hi
  have hg := hgd i _ ho
  unfold wpOpIn at h ⊢
  rw [swapOps_get hp ho] at h
  rw [ho]
  simp only at h ⊢
  rw [if_pos (wanted_none (o := reEdge p ops[i]) hg _)] at h
  rw [if_pos (wanted_none hg _)]
  exact Oper.wpIn_mono hK h

theorem lset_swap (hp : p + 1 < ops.size) {l lB : Array Bool} {i : Nat} (hl : l.size = ops.size) (hlB : lB.size = ops.size) (hi : i < ops.size) (hrel : ∀ i, lB.getD (swapI p i) false = l.getD i false) (j : Nat) :
    (lB.setIfInBounds (swapI p i) true).getD (swapI p j) false = (l.setIfInBounds i true).getD j false := by
  rw [set_getD hl hi, set_getD hlB (swapI_lt hp hi)]
  unfold setL
  by_cases e : j = i
  · rw [if_pos e, if_pos (by rw [e])]
  · rw [if_neg e, if_neg (fun h => e (by have := congrArg (swapI p) h; rwa [swapI_swapI, swapI_swapI] at this))]
    exact hrel j

theorem any_swap (hp : p + 1 < ops.size) (hgd : ∀ (i : Nat) (o : Oper), ops[i]? = some o → o.guard = none) :
    ∀ (fuel : Nat) (l lB : Array Bool) (a : Act) (w : World), l.size = ops.size → lB.size = ops.size → (∀ i, lB.getD (swapI p i) false = l.getD i false) →
      wpAnyIn (FR r) 0 P .any (swapOps p ops) Q fuel lB a w → wpAnyIn (FR r) 0 P .any ops Q fuel l a w := by
  intro fuel
  have hnil : ∀ {l lB : Array Bool}, l.size = ops.size → lB.size = ops.size → (∀ i, lB.getD (swapI p i) false = l.getD i false) → Region.ready .any ops l = [] → Region.ready .any (swapOps p ops) lB = [] := by
    intro l lB hl hlB hrel h
    apply List.eq_nil_iff_forall_not_mem.2
    intro j hj
    have : swapI p j ∈ Region.ready .any ops l := by
      rw [ready_swap hp hl hlB hrel, swapI_swapI]; exact hj
    rw [h] at this
    cases this
  have hnil' : ∀ {l lB : Array Bool}, l.size = ops.size → lB.size = ops.size → (∀ i, lB.getD (swapI p i) false = l.getD i false) → Region.ready .any (swapOps p ops) lB = [] → Region.ready .any ops l = [] := by
    intro l lB hl hlB hrel h
    apply List.eq_nil_iff_forall_not_mem.2
    intro j hj
    rw [ready_swap hp hl hlB hrel, h] at hj
    cases hj
  induction fuel with
  | zero =>
    rintro l lB a w hl hlB hrel ⟨h1, h2⟩
    exact ⟨hnil' hl hlB hrel h1, h2⟩
  | succ fuel ih =>
    rintro l lB a w hl hlB hrel ⟨h1, h2⟩
    refine ⟨fun h => h1 (hnil hl hlB hrel h), fun i hi => ?_⟩
    have hlt := (ready_of hl hi).1
    refine op_swap hp hgd hlt (fun a w h => ?_) (h2 _ ((ready_swap hp hl hlB hrel i).1 hi))
    exact ih _ _ a w (by simpa using hl) (by simpa using hlB) (lset_swap hp hl hlB hlt hrel) h
end swap

/-! ### two traces with one beginning -/

def gl {α : Type} (m : Nat) (f g : Nat → α) (i : Nat) : α := if i < m then f i else g (i - m)

theorem gl_lt {α : Type} {m i : Nat} {f g : Nat → α} (h : i < m) : gl m f g i = f i := if_pos h
theorem gl_add {α : Type} (m i : Nat) (f g : Nat → α) : gl m f g (m + i) = g i := by
  unfold gl
  rw [if_neg (by omega), show m + i - m = i by omega]
theorem gl_le {α : Type} {m i : Nat} {f g : Nat → α} (h : i ≤ m) (e : g 0 = f m) : gl m f g i = f i := by
  by_cases hi : i < m
  · exact gl_lt hi
  · have : i = m + 0 := by omega
    rw [this, gl_add]; exact e

section two
variable {mu : Nat → Bool} {n : Nat} {W : Draw} {T : Env} {K : Env → Hp → Prop}

theorem glue {l1 l2 : List Oper} {Ts1 Ts2 : Nat → Env} {Hs1 Hs2 : Nat → Hp} {vs1 vs2 : Nat → AV}
    (h1 : ∀ (i : Nat) (o : Oper), l1[i]? = some o → StepR P mu n W i (l1.map (·.dst)) o (Ts1 i) (Hs1 i) (vs1 i) (Ts1 (i + 1)) (Hs1 (i + 1))) (eT : Ts2 0 = Ts1 l1.length) (eH : Hs2 0 = Hs1 l1.length)
    (h2 : ∀ (i : Nat) (o : Oper), l2[i]? = some o → StepR P mu n W (l1.length + i) (l1.map (·.dst) ++ l2.map (·.dst)) o (Ts2 i) (Hs2 i) (vs2 i) (Ts2 (i + 1)) (Hs2 (i + 1))) {ops : Array Oper} (hops : ops.toList = l1 ++ l2) :
    Trace P mu n W ops (gl l1.length Ts1 Ts2) (gl l1.length Hs1 Hs2) (gl l1.length vs1 vs2) := by
  intro i o ho
  have ho' : (l1 ++ l2)[i]? = some o := by rw [← hops]; simpa using ho
  rw [hops, List.map_append]
  by_cases hi : i < l1.length
  · rw [List.getElem?_append_left hi] at ho'
    obtain ⟨k1, k2, b, k3, k4⟩ := h1 i o ho'
    rw [gl_lt hi, gl_lt hi, gl_lt hi, gl_le (by omega) eT, gl_le (by omega) eH]
    exact ⟨k1, k2, b, guardA_more k3, k4⟩
  · obtain ⟨j, rfl⟩ : ∃ j, i = l1.length + j := ⟨i - l1.length, by omega⟩
    rw [List.getElem?_append_right (by omega), show l1.length + j - l1.length = j by omega] at ho'
    rw [gl_add, gl_add, gl_add, show l1.length + j + 1 = l1.length + (j + 1) by omega, gl_add, gl_add]
    exact h2 j o ho'

theorem Awp.drawn2 {rd : Option Nat} {Q : Exit → Env → Hp → Prop} {id : Nat} {ops opsB : Array Oper} (hm : P.follows .mixedOrders = true) (mu : Nat → Bool) (W : Draw) (p : Nat) (bs bsB : List Nat)
    (hB : opsB = swapOps p ops) (hp : p + 1 < ops.size) (hgd : ops.all (fun o => o.guard.isNone) = true) (hokA : drawOkX mu W ops bs p = true) (hokB : drawOkX mu W opsB bsB p = true)
    (hbs : (List.range p).all (fun i => bsB.getD i 0 == bs.getD i 0) = true) (hafter : (List.range ops.size).all (fun j => !decide (p + 1 < j) || (bs.getD j 0).testBit p) = true) (hpre : opsB.toList.take p = ops.toList.take p)
    (h : wpO P mu n (some W) [] (ops.toList.take p) T H (fun T' H' => wpO P mu n (some W) ((ops.toList.take p).map (·.dst)) (ops.toList.drop p) T' H' (Q .normal) ∧ wpO P mu n (some W) ((ops.toList.take p).map (·.dst)) (opsB.toList.drop p) T' H' (Q .normal))) :
    Awp P n rd (.region id ops true) T H Q := by
  intro base w0 g w a r S hT hr
  refine wpIn_region_any hm ?_
  have DA := drawOkX_spec hokA
  have DB := drawOkX_spec hokB
  have hszB : opsB.size = ops.size := by rw [hB, swapOps_size]
  have hl1 : (ops.toList.take p).length = p := by simp; omega
  obtain ⟨Ts1, Hs1, vs1, t1, e1, ⟨hA, hBk⟩, st1⟩ := trace_of _ _ _ _ h
  obtain ⟨TsA, HsA, vsA, tA, eA, kA, stA⟩ := trace_of _ _ _ _ hA
  obtain ⟨TsB, HsB, vsB, tB, eB, kB, stB⟩ := trace_of _ _ _ _ hBk
  have st1' : ∀ (i : Nat) (o : Oper), (ops.toList.take p)[i]? = some o → StepR P mu n W i ((ops.toList.take p).map (·.dst)) o (Ts1 i) (Hs1 i) (vs1 i) (Ts1 (i + 1)) (Hs1 (i + 1)) := by
    intro i o ho
    have := st1 i o ho
    simpa only [List.length_nil, Nat.zero_add, List.nil_append] using this
  have stA' : ∀ (i : Nat) (o : Oper), (ops.toList.drop p)[i]? = some o → StepR P mu n W ((ops.toList.take p).length + i) ((ops.toList.take p).map (·.dst) ++ (ops.toList.drop p).map (·.dst)) o (TsA i) (HsA i) (vsA i) (TsA (i + 1)) (HsA (i + 1)) := by
    intro i o ho
    have := stA i o ho
    rwa [List.length_map] at this
  have stB' : ∀ (i : Nat) (o : Oper), (opsB.toList.drop p)[i]? = some o → StepR P mu n W ((ops.toList.take p).length + i) ((ops.toList.take p).map (·.dst) ++ (opsB.toList.drop p).map (·.dst)) o (TsB i) (HsB i) (vsB i) (TsB (i + 1)) (HsB (i + 1)) := by
    intro i o ho
    have := stB i o ho
    rwa [List.length_map] at this
  have trA := glue st1' tA eA stA' (ops := ops) (List.take_append_drop p _).symm
  have trB := glue st1' tB eB stB' (ops := opsB) (by rw [← hpre]; exact (List.take_append_drop p _).symm)
  rw [hl1] at trA trB tA eA tB eB
  have t0A : gl p Ts1 TsA 0 = T := (gl_le (Nat.zero_le _) tA).trans t1
  have h0A : gl p Hs1 HsA 0 = H := (gl_le (Nat.zero_le _) eA).trans e1
  have t0B : gl p Ts1 TsB 0 = T := (gl_le (Nat.zero_le _) tB).trans t1
  have h0B : gl p Hs1 HsB 0 = H := (gl_le (Nat.zero_le _) eB).trans e1
  have kA' : Q .normal (gl p Ts1 TsA ops.size) (gl p Hs1 HsA ops.size) := by
    have : ops.size = p + (ops.toList.drop p).length := by simp; omega
    rw [this, gl_add, gl_add]; exact kA
  have kB' : Q .normal (gl p Ts1 TsB opsB.size) (gl p Hs1 HsB opsB.size) := by
    have : opsB.size = p + (opsB.toList.drop p).length := by simp; omega
    rw [this, gl_add, gl_add]; exact kB
  have hQ : ∀ (T : Env) (H : Hp) (g' : Gh) (w : World) (a' : Act), Q .normal T H → g.le g' → Sim base w0 g' H w → TRel g' n T a'.tmps → a'.defers = a.defers →
      ∃ T' H' g2 ds, Q .normal T' H' ∧ g.le g2 ∧ Sim base w0 g2 H' w ∧ TRel g2 n T' a'.tmps ∧ a'.defers = ds ++ a.defers ∧ Marks g g2 ds :=
    fun T' H' g' w' a' hk hg S' hT' hd => ⟨T', H', g', [], hk, hg, S', hT', hd, Marks.nil _ _⟩
  have hT0 : ∀ (ops : Array Oper) (vs : Nat → AV) k m, Tc ops T vs (fun i => (Array.replicate k false).getD i false) m = T := by
    intro ops vs k m
    induction m with
    | zero => rfl
    | succ m ih =>
      show (if (Array.replicate k false).getD m false = true then _ else _) = T
      rw [if_neg (by rw [Array.getD_eq_getD_getElem?, Array.getElem?_replicate]; split <;> simp), ih]
  have hH0 : ∀ (Hs : Nat → Hp) k m, Hc H Hs W.ev (fun i => (Array.replicate k false).getD i false) m = H := by
    intro Hs k m
    induction m with
    | zero => rfl
    | succ m ih =>
      show (if ((Array.replicate k false).getD m false && W.ev m) = true then _ else _) = H
      rw [if_neg (by rw [Array.getD_eq_getD_getElem?, Array.getElem?_replicate]; split <;> simp), ih]
  have hrep : ∀ i, (Array.replicate ops.size false).getD i false = false := by
    intro i
    rw [Array.getD_eq_getD_getElem?, Array.getElem?_replicate]; split <;> rfl
  have hgd' : ∀ (i : Nat) (o : Oper), ops[i]? = some o → o.guard = none := by
    intro i o ho
    have := Array.all_eq_true_iff_forall_mem.1 hgd o (Array.mem_of_getElem? ho)
    simpa using this
  refine any_soundX (base := base) (w0 := w0) (n := n) (K := Q .normal) (g0 := g) (ds := a.defers) DA t0A h0A trA kA' hQ ops.size _ g _ a (by simp) (fun i j _ _ hl _ => by rw [hrep] at hl; cases hl) (fun S hS hk => nodup_le _ S hS fun k hkm => (hk k hkm).1)
    (fun h => by rw [hrep] at h; cases h) (.inr ?_) (Gh.le.refl g) (by rw [hH0]; exact S.drew) (by rw [hT0]; exact hT) rfl
  intro fuel listed g1 w1 a1 hsz hcl hcnt hp0 hq0 hready hg1 S1 hT1 hd1
  have hlow : ∀ j, listed.getD j false = true → j < p := by
    intro j hj
    by_cases hjs : j < ops.size
    · rcases Nat.lt_or_ge j p with h | h
      · exact h
      · exfalso
        by_cases e1 : j = p
        · subst e1; rw [hp0] at hj; cases hj
        · by_cases e2 : j = p + 1
          · subst e2; rw [hq0] at hj; cases hj
          · have := List.all_eq_true.1 hafter j (List.mem_range.2 hjs)
            simp only [Bool.or_eq_true, Bool.not_eq_true', decide_eq_false_iff_not] at this
            rcases this with h3 | h3
            · omega
            · have := hcl j p hjs (by omega) hj h3
              rw [hp0] at this; cases this
    · exfalso
      rw [Array.getD_eq_getD_getElem?, Array.getElem?_eq_none (by omega)] at hj
      cases hj
  have hrel : ∀ i, listed.getD (swapI p i) false = listed.getD i false := by
    intro i
    unfold swapI
    split
    · rename_i e; subst e; rw [hp0, hq0]
    · split
      · rename_i e; subst e; rw [hp0, hq0]
      · rfl
  have hnot : ∀ j, p ≤ j → listed.getD j false = false := by
    intro j hj
    cases h : listed.getD j false with
    | false => rfl
    | true => have := hlow j h; omega
  have hdst : ∀ m, m < p → (ops[m]?).bind (·.dst) = (opsB[m]?).bind (·.dst) := by
    intro m hm
    have : (opsB.toList.take p)[m]? = (ops.toList.take p)[m]? := by rw [hpre]
    rw [List.getElem?_take, List.getElem?_take, if_pos hm, if_pos hm] at this
    have e : opsB[m]? = ops[m]? := by simpa using this
    rw [e]
  have hTc : Tc ops T (gl p vs1 vsA) (fun i => listed.getD i false) ops.size = Tc opsB T (gl p vs1 vsB) (fun i => listed.getD i false) opsB.size := by
    have low : ∀ m, m ≤ p → Tc ops T (gl p vs1 vsA) (fun i => listed.getD i false) m = Tc opsB T (gl p vs1 vsB) (fun i => listed.getD i false) m := by
      intro m
      induction m with
      | zero => intro _; rfl
      | succ m ih =>
        intro hm
        show (if listed.getD m false then putA (Tc ops T (gl p vs1 vsA) (fun i => listed.getD i false) m) ((ops[m]?).bind (·.dst)) (gl p vs1 vsA m) else Tc ops T (gl p vs1 vsA) (fun i => listed.getD i false) m) =
          (if listed.getD m false then putA (Tc opsB T (gl p vs1 vsB) (fun i => listed.getD i false) m) ((opsB[m]?).bind (·.dst)) (gl p vs1 vsB m) else Tc opsB T (gl p vs1 vsB) (fun i => listed.getD i false) m)
        rw [ih (by omega), hdst m (by omega), gl_lt (show m < p by omega), gl_lt (show m < p by omega)]
    funext t
    have f1 := Tc_from (ops := ops) (T0 := T) (vs := gl p vs1 vsA) (L := fun i => listed.getD i false) t p (ops.size - p) (fun j _ hj _ _ _ => hnot j hj)
    have f2 := Tc_from (ops := opsB) (T0 := T) (vs := gl p vs1 vsB) (L := fun i => listed.getD i false) t p (opsB.size - p) (fun j _ hj _ _ _ => hnot j hj)
    rw [show p + (ops.size - p) = ops.size by omega] at f1
    rw [show p + (opsB.size - p) = opsB.size by omega] at f2
    rw [f1, f2, low p (Nat.le_refl _)]
  have hHc : Hc H (gl p Hs1 HsA) W.ev (fun i => listed.getD i false) ops.size = Hc H (gl p Hs1 HsB) W.ev (fun i => listed.getD i false) opsB.size := by
    have low : ∀ m, m ≤ p → Hc H (gl p Hs1 HsA) W.ev (fun i => listed.getD i false) m = Hc H (gl p Hs1 HsB) W.ev (fun i => listed.getD i false) m := by
      intro m
      induction m with
      | zero => intro _; rfl
      | succ m ih =>
        intro hm
        show (if listed.getD m false && W.ev m then gl p Hs1 HsA (m + 1) else Hc H (gl p Hs1 HsA) W.ev (fun i => listed.getD i false) m) =
          (if listed.getD m false && W.ev m then gl p Hs1 HsB (m + 1) else Hc H (gl p Hs1 HsB) W.ev (fun i => listed.getD i false) m)
        rw [ih (by omega), gl_le hm eA, gl_le hm eB]
    have f1 := Hc_from (H0 := H) (Hs := gl p Hs1 HsA) (W := W) (L := fun i => listed.getD i false) p (ops.size - p) (fun j hj _ _ => hnot j hj)
    have f2 := Hc_from (H0 := H) (Hs := gl p Hs1 HsB) (W := W) (L := fun i => listed.getD i false) p (opsB.size - p) (fun j hj _ _ => hnot j hj)
    rw [show p + (ops.size - p) = ops.size by omega] at f1
    rw [show p + (opsB.size - p) = opsB.size by omega] at f2
    rw [f1, f2, low p (Nat.le_refl _)]
  rw [hTc] at hT1
  rw [hHc] at S1
  have hszl : listed.size = opsB.size := by rw [hszB]; exact hsz
  have hsw : swapI p (p + 1) = p := by unfold swapI; rw [if_neg (by omega), if_pos rfl]
  have hrB : p ∈ Region.ready .any opsB listed := by
    have := (ready_swap hp hsz hsz hrel (p + 1)).1 hready
    rw [hsw, ← hB] at this
    exact this
  have hclB : Shut opsB bsB listed := by
    intro i j hi hj hl ht
    have hip := hlow i hl
    have := List.all_eq_true.1 hbs i (List.mem_range.2 hip)
    rw [eq_of_beq this] at ht
    exact hcl i j (by omega) (by omega) hl ht
  have hcntB : Room opsB listed (fuel + 1) := fun S hS hk => hcnt S hS fun i hi => ⟨by have := (hk i hi).1; omega, (hk i hi).2⟩
  have hstep := any_stepX (base := base) (w0 := w0) (n := n) (g0 := g) (ds := a.defers) (r := r) (fuel := fuel) (Q := fun e a' w' => ∃ T' H' g' ds, Q e T' H' ∧ g.le g' ∧ Sim base w0 g' H' w' ∧ TRel g' n T' a'.tmps ∧ a'.defers = ds ++ a.defers ∧ Marks g g' ds)
    DB t0B h0B trB hszl hclB (fun h => by rw [hq0] at h; cases h) hrB (fun e => by omega) hg1 S1 hT1 hd1 (fun g' w' a' hg' S' hT' hd' => by
      have hpl : p < opsB.size := by omega
      refine any_soundX (K := Q .normal) DB t0B h0B trB kB' hQ fuel _ g' w' a' (by simpa using hszl) (hclB.set DB hszl hrB) (hcntB.set hszl hrB) ?_ (.inl ?_) hg' S' hT' hd'
      · intro _
        rw [set_getD hszl hpl]; unfold setL; rw [if_pos rfl]
      · rw [set_getD hszl hpl]; unfold setL; rw [if_pos rfl])
  subst hB
  refine op_swap hp hgd' hp (fun a w h => ?_) (by rw [hsw]; exact hstep)
  refine any_swap hp hgd' fuel _ _ a w (by simpa using hsz) (by simpa using hsz) (fun i => ?_) h
  have := lset_swap hp hsz hsz hp hrel i
  rw [hsw] at this
  exact this
theorem drw2 {rd : Option Nat} {Q : Exit → Env → Hp → Prop} {id : Nat} {ops : Array Oper} (hm : P.follows .mixedOrders = true) (mu : Nat → Bool) (W : Draw) (p : Nat) (opsB : Array Oper)
    (hB : opsB = swapOps p ops) (hp : p + 1 < ops.size) (hgd : ops.all (fun o => o.guard.isNone) = true) (hokA : drawOkX mu W ops (Region.before ops).toList p = true) (hokB : drawOkX mu W opsB (Region.before opsB).toList p = true)
    (hbs : (List.range p).all (fun i => (Region.before opsB).toList.getD i 0 == (Region.before ops).toList.getD i 0) = true) (hafter : (List.range ops.size).all (fun j => !decide (p + 1 < j) || ((Region.before ops).toList.getD j 0).testBit p) = true) (hpre : opsB.toList.take p = ops.toList.take p)
    (h : wpO P mu n (some W) [] (ops.toList.take p) T H (fun T' H' => wpO P mu n (some W) ((ops.toList.take p).map (·.dst)) (ops.toList.drop p) T' H' (Q .normal) ∧ wpO P mu n (some W) ((ops.toList.take p).map (·.dst)) (opsB.toList.drop p) T' H' (Q .normal))) :
    Awp P n rd (.region id ops true) T H Q := Awp.drawn2 hm mu W p _ _ hB hp hgd hokA hokB hbs hafter hpre h

end two

end Go.Proofs.Ytehagceghnjamaa.Ab
