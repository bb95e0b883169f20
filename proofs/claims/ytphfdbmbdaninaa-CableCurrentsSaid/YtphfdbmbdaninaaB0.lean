/- Calls, and regions of operations in the order of the text. -/
import Derived.Test.YtphfdbmbdaninaaA9
namespace Go.Proofs.Ytphfdbmbdaninaa.Ab
open Go Go.RowKit

variable {base : Nat} {w0 w w' : World} {g : Gh} {H : Hp} {P : Program}

/-- all functions, no depth; in the round of the loop r -/
def FR (r : Option Nat) : Fence := { Fence.wide with round := r }

def callable (P : Program) (k : FuncId) : Bool :=
  match P.funcs[k]? with
  | some fn => fn.body.isSome && !(fn.name == "runtime.NumGoroutine")
  | none => false

/-- a call of function f comes to a value and a heap of which Post holds -/
def ACalls (P : Program) (f : FuncId) (args : List AV) (H : Hp) (Post : AV → Hp → Prop) : Prop :=
  callable P f = true ∧ ∀ (base : Nat) (w0 : World) (g : Gh) (w : World) (vs : Array Value), Sim base w0 g H w → RCells g args vs →
    CallsIn Fence.wide 0 P f vs w fun e w' => ∃ v a H' g', e = .returned v ∧ Post a H' ∧ g.le g' ∧ Sim base w0 g' H' w' ∧ R g' a v

/-- a call of the yield of the loop b -/
def AYield (P : Program) (b : Nat) (args : List AV) (H : Hp) (Post : AV → Hp → Prop) : Prop :=
  ∀ (base : Nat) (w0 : World) (g : Gh) (w : World) (vs : Array Value) (l : Nat), Sim base w0 g H w → RCells g args vs → g.ph b = some l →
    ∃ fn tmps assign body, (Instr.yield l vs).run P w = .ok (.round l fn tmps assign body) w ∧
      RoundIn Fence.wide 0 P l fn tmps assign body w fun e w' => ∃ v a H' g', e = .returned v ∧ Post a H' ∧ g.le g' ∧ Sim base w0 g' H' w' ∧ R g' a v

def ACallV (P : Program) (fv : AV) (args : List AV) (H : Hp) (Post : AV → Hp → Prop) : Prop :=
  match fv with
  | .fn (.func k) cap => ACalls P k (args ++ cap) H Post
  | .mth k pre => ACalls P k (pre ++ args) H Post
  | .fn (.yield b) [] => AYield P b args H Post
  | _ => False

theorem ACalls.mono {f : FuncId} {args : List AV} {Post Post' : AV → Hp → Prop} (h : ACalls P f args H Post) (hp : ∀ a H', Post a H' → Post' a H') : ACalls P f args H Post' :=
  ⟨h.1, fun base w0 g w vs S hr => (h.2 base w0 g w vs S hr).mono fun _ _ ⟨v, a, H', g', h1, h2, h3⟩ => ⟨v, a, H', g', h1, hp a H' h2, h3⟩⟩

theorem AYield.mono {b : Nat} {args : List AV} {Post Post' : AV → Hp → Prop} (h : AYield P b args H Post) (hp : ∀ a H', Post a H' → Post' a H') : AYield P b args H Post' :=
  fun base w0 g w vs l S hr hl => by
    obtain ⟨fn, tmps, assign, body, h1, h2⟩ := h base w0 g w vs l S hr hl
    exact ⟨fn, tmps, assign, body, h1, h2.mono fun _ _ ⟨v, a, H', g', k1, k2, k3⟩ => ⟨v, a, H', g', k1, hp a H' k2, k3⟩⟩

theorem ACallV.mono {fv : AV} {args : List AV} {Post Post' : AV → Hp → Prop} (h : ACallV P fv args H Post) (hp : ∀ a H', Post a H' → Post' a H') : ACallV P fv args H Post' := by
  unfold ACallV at h ⊢
  split at h
  · exact ACalls.mono h hp
  · exact ACalls.mono h hp
  · exact AYield.mono h hp
  · exact h.elim

theorem RCells.append {cs ds : List AV} {vs us : Array Value} (h : RCells g cs vs) (k : RCells g ds us) : RCells g (cs ++ ds) (vs ++ us) := by
  have h1 := h.size
  have h2 := k.size
  refine ⟨by simp [h1, h2], fun i c v hc hv => ?_⟩
  rw [List.getElem?_append] at hc
  rw [Array.getElem?_append] at hv
  by_cases hi : i < cs.length
  · rw [if_pos hi] at hc
    rw [if_pos (by omega)] at hv
    exact h.cell i c v hc hv
  · rw [if_neg hi] at hc
    rw [if_neg (by omega), ← h1] at hv
    exact k.cell _ c v hc hv

def callOf (o : Oper) : Option (Operand × Array Operand) :=
  match o.op with
  | .call ⟨.value f, args, _⟩ => some (f, args)
  | _ => none

theorem callOf_eq {o : Oper} {f : Operand} {args : Array Operand} (h : callOf o = some (f, args)) : ∃ aT, o.op = .call ⟨.value f, args, aT⟩ := by
  unfold callOf at h
  split at h
  · rename_i f' args' aT e
    cases h
    exact ⟨aT, e⟩
  · cases h

/-- the machine's word for one operation: it ends in a value of which k holds -/
def OpOK (P : Program) (o : Oper) (T : Env) (H : Hp) (k : AV → Hp → Prop) : Prop :=
  ∀ (base : Nat) (w0 : World) (g : Gh) (w : World) (a : Act) (r : Option Nat), Sim base w0 g H w → (∀ x ∈ o.op.operands, R g (evA T x) (a.eval x)) →
    ∀ (next : Act → World → Prop) (Q : Exit → Act → World → Prop),
      (∀ v z H' g' w', k v H' → g.le g' → Sim base w0 g' H' w' → R g' v z → next (a.put o.dst z) w') → o.wpIn (FR r) 0 P a w next Q

theorem OpOK.call {o : Oper} {f : Operand} {args : Array Operand} {T : Env} {k : AV → Hp → Prop} (ho : callOf o = some (f, args)) (h : ACallV P (evA T f) (args.toList.map (evA T)) H k) : OpOK P o T H k := by
  obtain ⟨aT, ho⟩ := callOf_eq ho
  intro base w0 g w a r S hr next Q hn
  have hf := hr f (by simp [ho, Op.operands, Call.operands])
  obtain ⟨hl, hp⟩ := list_rel (g := g) (T := T) (a := a) args (fun x hx => hr x (by simp [ho, Op.operands, Call.operands, hx]))
  have hargs : RCells g (args.toList.map (evA T)) (args.map a.eval) := ⟨hl, hp⟩
  have hex : o.semAt (FR r).round a.eval = execOp a.eval o := Oper.semAt_eq _ _ _ (by intro c hc; rw [ho] at hc; cases hc)
  refine ⟨fun _ _ => trivial, ?_⟩
  rw [hex]
  unfold ACallV at h
  split at h
  · rename_i k' cap e
    rw [e] at hf
    generalize hfv : a.eval f = fv at hf
    cases hf with
    | fn hy hcl hcr =>
      rename_i vs
      obtain ⟨hc1, hc2⟩ := h
      have hcall := hc2 base w0 g w (args.map a.eval ++ vs) S (hargs.append ⟨hcl, hcr⟩)
      have hrun : (execOp a.eval o).run P w = .ok (.enter k' (args.map a.eval ++ vs)) w := by
        unfold callable at hc1
        split at hc1
        · rename_i fn hfn
          simp only [Bool.and_eq_true, Bool.not_eq_true'] at hc1
          have hb : fn.body ≠ none := by intro hb; simp [hb] at hc1
          have hne : fn.name ≠ "runtime.NumGoroutine" := by simpa using hc1.2
          simp [execOp, ho, resolve, Deferred.ofValue, hfv, invoke, callFunc, hfn, hne, hb]
        · cases hc1
      rw [hrun, Oper.uponIn_enter]
      refine ⟨fun h => by simp [FR, Fence.wide] at h, ?_⟩
      refine (CallsIn.mono hcall fun e w' ⟨v, a', H', g', h1, h2, h3, h4, h5⟩ => ?_ : CallsIn Fence.wide 0 P k' (args.map a.eval ++ vs) w _)
      subst h1
      exact hn a' v H' g' w' h2 h3 h4 h5
  · rename_i k' pre e
    rw [e] at hf
    generalize hfv : a.eval f = fv at hf
    cases hf with
    | mth hcl hcr =>
      rename_i vs
      obtain ⟨hc1, hc2⟩ := h
      have hcall := hc2 base w0 g w (vs ++ args.map a.eval) S (RCells.append ⟨hcl, hcr⟩ hargs)
      have hrun : (execOp a.eval o).run P w = .ok (.enter k' (vs ++ args.map a.eval)) w := by
        unfold callable at hc1
        split at hc1
        · rename_i fn hfn
          simp only [Bool.and_eq_true, Bool.not_eq_true'] at hc1
          have hb : fn.body ≠ none := by intro hb; simp [hb] at hc1
          have hne : fn.name ≠ "runtime.NumGoroutine" := by simpa using hc1.2
          simp [execOp, ho, resolve, Deferred.ofValue, hfv, invoke, callFunc, hfn, hne, hb]
        · cases hc1
      rw [hrun, Oper.uponIn_enter]
      refine ⟨fun h => by simp [FR, Fence.wide] at h, ?_⟩
      refine (CallsIn.mono hcall fun e w' ⟨v, a', H', g', h1, h2, h3, h4, h5⟩ => ?_ : CallsIn Fence.wide 0 P k' (vs ++ args.map a.eval) w _)
      subst h1
      exact hn a' v H' g' w' h2 h3 h4 h5
  · rename_i b e
    rw [e] at hf
    generalize hfv : a.eval f = fv at hf
    cases hf with
    | fn hy _ _ => exact absurd rfl (hy b)
    | yld hb =>
      rename_i l
      obtain ⟨fn, tmps, assign, body, h1, h2⟩ := h base w0 g w (args.map a.eval) l S hargs hb
      have hrun : (execOp a.eval o).run P w = .ok (.round l fn tmps assign body) w := by
        simp [execOp, ho, resolve, Deferred.ofValue, hfv, invoke, h1]
      rw [hrun, Oper.uponIn_round]
      refine ⟨fun h => by simp [FR, Fence.wide] at h, ?_⟩
      refine (RoundIn.mono h2 fun e w' ⟨v, a', H', g', k1, k2, k3, k4, k5⟩ => ?_ : RoundIn Fence.wide 0 P l fn tmps assign body w _)
      subst k1
      exact hn a' v H' g' w' k2 k3 k4 k5
  · exact h.elim

theorem OpOK.step {mu : Nat → Bool} {o : Oper} {T : Env} {k : AV → Hp → Prop} {v : AV} {H' : Hp} (h : stepA P mu o T H = some (v, H')) (hk : k v H') : OpOK P o T H k := by
  intro base w0 g w a r S hr next Q hn
  obtain ⟨z, g', w', hrun, h1, h2, h3⟩ := stepA_sound S h hr
  have hnd : ∀ c, o.op ≠ .defer c := by
    intro c hc
    simp [stepA, hc] at h
  have hex : o.semAt (FR r).round a.eval = execOp a.eval o := Oper.semAt_eq _ _ _ hnd
  refine ⟨fun _ _ => trivial, ?_⟩
  rw [hex]
  rcases hrun with hrun | ⟨hrun, rfl⟩
  · rw [hrun]; exact hn v z H' g' w' hk h1 h2 h3
  · rw [hrun]; exact hn v undef H' g' w' hk h1 h2 h3

/-! ### the operations of a region -/

def upd (T : Env) (d : Nat) (v : AV) : Env := fun s => if s = d then v else T s

def putA (T : Env) : Option Tmp → AV → Env
  | none, _ => T
  | some d, v => upd T d v

def dstOk (n : Nat) : Option Tmp → Bool
  | none => true
  | some d => decide (d < n)

theorem TRel.put {n : Nat} {T : Env} {a : Act} {dst : Option Tmp} {v : AV} {z : Value} (h : TRel g n T a.tmps) (hd : dstOk n dst = true) (hv : R g v z) : TRel g n (putA T dst v) (a.put dst z).tmps := by
  cases dst with
  | none => exact h
  | some d =>
    have hd' : d < n := by simpa [dstOk] using hd
    have hlt : d < a.tmps.size := by rw [h.size]; exact hd'
    refine ⟨by simp [Act.put, h.size], fun t => ?_⟩
    simp only [putA, upd, Act.put, Array.getD_eq_getD_getElem?, Array.getElem?_setIfInBounds]
    by_cases e : t = d
    · subst e
      rw [if_pos rfl, if_pos rfl, if_pos hlt]
      exact hv
    · rw [if_neg e, if_neg (fun h => e h.symm)]
      have := h.slot t
      rwa [Array.getD_eq_getD_getElem?] at this

/-- is the operation wanted? -/
def guardA (done : List (Option Tmp)) (gd : Option (Nat × Bool)) (T : Env) : Option Bool :=
  match gd with
  | none => some true
  | some (j, want) => match done[j]? with
    | some (some s) => match T s with
      | .val (.bool t) => some (t == want)
      | .val _ => some false
      | _ => none
    | _ => none

theorem guardA_wanted {n : Nat} {ops : List Oper} {done : List (Option Tmp)} {o : Oper} {rest : List Oper} {T : Env} {a : Act} {b : Bool} (hT : TRel g n T a.tmps)
    (hops : ops.map (·.dst) = done ++ (o :: rest).map (·.dst)) (hn : ∀ d ∈ done, dstOk n d = true) (h : guardA done o.guard T = some b) : Region.wanted o (yielded ops.toArray a.tmps) = b := by
  unfold guardA at h
  unfold Region.wanted
  split at h
  · rename_i e
    rw [e]
    cases h
    rfl
  · rename_i j want e
    rw [e]
    split at h
    · rename_i s hs
      have hj : j < done.length := (List.getElem?_eq_some_iff.1 hs).1
      have hdst : (ops.toArray[j]?).bind (·.dst) = some s := by
        have : (ops.map (·.dst))[j]? = some (some s) := by rw [hops, List.getElem?_append_left hj]; exact hs
        rw [List.getElem?_map, Option.map_eq_some_iff] at this
        obtain ⟨x, hx, hd⟩ := this
        simp [hx, hd]
      have hsn : s < n := by
        have := hn (some s) (List.mem_of_getElem? hs)
        simpa [dstOk] using this
      have hlt : s < a.tmps.size := by rw [hT.size]; exact hsn
      have hslot := hT.slot s
      rw [Array.getD_eq_getD_getElem?] at hslot
      obtain ⟨x, hx⟩ : ∃ x, a.tmps[s]? = some x := ⟨_, Array.getElem?_eq_getElem hlt⟩
      rw [hx, Option.getD_some] at hslot
      simp only [yielded, hdst, Option.bind_some, hx]
      split at h
      · rename_i t et
        rw [et] at hslot
        cases hslot
        cases h
        simp
      · rename_i v hnb ev
        rw [ev] at hslot
        cases hslot
        cases h
        cases x <;> first | rfl | exact absurd rfl (hnb _ )
      · cases h
    · cases h

/-- what an operation comes to -/
def PerfTo (P : Program) (mu : Nat → Bool) (o : Oper) (T : Env) (H : Hp) (v : AV) (H' : Hp) : Prop :=
  match callOf o with
  | some (f, args) => ACallV P (evA T f) (args.toList.map (evA T)) H fun v1 H1 => v1 = v ∧ H1 = H'
  | none => stepA P mu o T H = some (v, H')

theorem PerfTo.ok {mu : Nat → Bool} {o : Oper} {T : Env} {v : AV} {H' : Hp} (h : PerfTo P mu o T H v H') : OpOK P o T H fun v1 H1 => v1 = v ∧ H1 = H' := by
  unfold PerfTo at h
  split at h
  · rename_i f args e; exact OpOK.call e h
  · exact OpOK.step h ⟨rfl, rfl⟩

/-- a region that draws its order: which operations may turn the heap; which look at blocks alone that no operation turns, and so may stand anywhere; these blocks -/
structure Draw where
  ev : Nat → Bool
  rf : Nat → Bool
  keep : Nat → Bool

def Draw.of (ev : Nat → Bool) : Draw := ⟨ev, fun _ => false, fun _ => false⟩
def Draw.agree (W : Draw) (H H2 : Hp) : Prop := ∀ b, W.keep b = true → H2[b]? = H[b]?

theorem Draw.agree.refl (W : Draw) (H : Hp) : W.agree H H := fun _ _ => rfl
theorem Draw.agree.symm {W : Draw} {H H2 : Hp} (h : W.agree H H2) : W.agree H2 H := fun b hb => (h b hb).symm
theorem Draw.agree.trans {W : Draw} {H H2 H3 : Hp} (h : W.agree H H2) (k : W.agree H2 H3) : W.agree H H3 := fun b hb => (k b hb).trans (h b hb)

def okD (P : Program) (mu : Nat → Bool) (d : Option Draw) (i : Nat) (o : Oper) (T : Env) (H : Hp) (v : AV) (H' : Hp) : Prop :=
  match d with
  | none => True
  | some W => (W.ev i = false → H' = H) ∧ W.agree H H' ∧ (W.rf i = true → ∀ H2, W.agree H H2 → PerfTo P mu o T H2 v H2)

def Perf (P : Program) (mu : Nat → Bool) (d : Option Draw) (i : Nat) (o : Oper) (T : Env) (H : Hp) (k : AV → Hp → Prop) : Prop :=
  match d with
  | none => match callOf o with
    | some (f, args) => ACallV P (evA T f) (args.toList.map (evA T)) H k
    | none => ∃ v H', stepA P mu o T H = some (v, H') ∧ k v H'
  | some W => ∃ v H', PerfTo P mu o T H v H' ∧ okD P mu (some W) i o T H v H' ∧ k v H'

theorem Perf.mono {mu : Nat → Bool} {d : Option Draw} {i : Nat} {o : Oper} {T : Env} {k k' : AV → Hp → Prop} (h : Perf P mu d i o T H k) (hk : ∀ v H', k v H' → k' v H') : Perf P mu d i o T H k' := by
  unfold Perf at h ⊢
  split
  · simp only at h
    split
    · rename_i f args e
      rw [e] at h
      exact ACallV.mono h hk
    · rename_i e
      rw [e] at h
      obtain ⟨v, H', h1, h2⟩ := h
      exact ⟨v, H', h1, hk _ _ h2⟩
  · obtain ⟨v, H', h1, h2, h3⟩ := h
    exact ⟨v, H', h1, h2, hk _ _ h3⟩

theorem Perf.of {mu : Nat → Bool} {d : Option Draw} {i : Nat} {o : Oper} {T : Env} {k : AV → Hp → Prop} {v : AV} {H' : Hp} (h : PerfTo P mu o T H v H') (ho : okD P mu d i o T H v H') (hk : k v H') : Perf P mu d i o T H k := by
  cases d with
  | some W => exact ⟨v, H', h, ho, hk⟩
  | none =>
    unfold PerfTo at h
    unfold Perf
    simp only
    split
    · rename_i f args e
      rw [e] at h
      exact ACallV.mono h fun a H1 ⟨e1, e2⟩ => by subst e1; subst e2; exact hk
    · rename_i e
      rw [e] at h
      exact ⟨v, H', h, hk⟩

theorem Perf.ok {mu : Nat → Bool} {d : Option Draw} {i : Nat} {o : Oper} {T : Env} {k : AV → Hp → Prop} (h : Perf P mu d i o T H k) : OpOK P o T H k := by
  unfold Perf at h
  split at h
  · split at h
    · rename_i f args e
      exact OpOK.call e h
    · obtain ⟨v, H', h1, h2⟩ := h
      exact OpOK.step h1 h2
  · obtain ⟨v, H', h1, _, h2⟩ := h
    intro base w0 g w a r S hr next Q hn
    exact h1.ok base w0 g w a r S hr next Q fun v1 z H1 g' w' ⟨e1, e2⟩ hg S' hR => by subst e1; subst e2; exact hn _ z _ g' w' h2 hg S' hR

def wpO (P : Program) (mu : Nat → Bool) (n : Nat) (d : Option Draw) : List (Option Tmp) → List Oper → Env → Hp → (Env → Hp → Prop) → Prop
  | _, [], T, H, K => K T H
  | done, o :: rest, T, H, K => dstOk n o.dst = true ∧ ∃ b, guardA done o.guard T = some b ∧
      (b = true → Perf P mu d done.length o T H fun v H' => wpO P mu n d (done ++ [o.dst]) rest (putA T o.dst v) H' K) ∧
      (b = false → wpO P mu n d (done ++ [o.dst]) rest (putA T o.dst (.val undef)) H K)

theorem wpO_sound {mu : Nat → Bool} {n : Nat} {d : Option Draw} {ops : List Oper} {r : Option Nat} {Q : Exit → Act → World → Prop} {base : Nat} {w0 : World} {ds : List Deferred} {g0 : Gh} {K : Env → Hp → Prop}
    (hQ : ∀ T H g w a, K T H → g0.le g → Sim base w0 g H w → TRel g n T a.tmps → a.defers = ds → Q .normal a w) :
    ∀ (l : List Oper) (done : List (Option Tmp)) (T : Env) (H : Hp) (g : Gh) (w : World) (a : Act), ops.map (·.dst) = done ++ l.map (·.dst) → (∀ d ∈ done, dstOk n d = true) → g0.le g → Sim base w0 g H w →
      TRel g n T a.tmps → a.defers = ds → wpO P mu n d done l T H K → wpListIn (FR r) 0 P ops.toArray Q l a w
  | [], done, T, H, g, w, a, _, _, hg, S, hT, hd, h => hQ T H g w a h hg S hT hd
  | o :: rest, done, T, H, g, w, a, hops, hn, hg, S, hT, hd, h => by
    obtain ⟨hdst, b, hb, h1, h2⟩ := h
    have hw := guardA_wanted hT hops hn hb
    have hops' : ops.map (·.dst) = (done ++ [o.dst]) ++ rest.map (·.dst) := by rw [hops]; simp
    have hn' : ∀ d ∈ done ++ [o.dst], dstOk n d = true := by
      intro d hd'
      rcases List.mem_append.1 hd' with h | h
      · exact hn d h
      · simp at h; subst h; exact hdst
    have hput : ∀ z, (a.put o.dst z).defers = a.defers := by intro z; cases o.dst <;> rfl
    unfold wpListIn
    cases b with
    | true =>
      rw [if_pos hw]
      refine (h1 rfl).ok base w0 g w a r S (fun x _ => evA_rel hT x) _ _ (fun v z H' g' w' hk hg' S' hR => ?_)
      exact wpO_sound hQ rest _ _ H' g' w' _ hops' hn' (hg.trans hg') S' ((hT.mono hg').put hdst hR) (by rw [hput]; exact hd) hk
    | false =>
      rw [if_neg (by rw [hw]; simp)]
      refine ⟨fun _ _ => trivial, ?_⟩
      exact wpO_sound hQ rest _ _ H g w _ hops' hn' hg S (hT.put hdst (.val _)) (by rw [hput]; exact hd) (h2 rfl)

end Go.Proofs.Ytphfdbmbdaninaa.Ab
