/- Ranges over functions: the statement, and a round. -/
import Derived.Test.YtphfdbmbdaninaaB5
import Derived.Test.YtphfdbmbdaninaaB2
namespace Go.Proofs.Ytphfdbmbdaninaa.Ab
open Go Go.RowKit

variable {base : Nat} {w0 w w' : World} {g : Gh} {H : Hp} {P : Program}

theorem grownBy_put (w : World) (x : Nat) (o : Obj) : w.grownBy (w.putObj x o) (some x) :=
  ⟨rfl, rfl, rfl, by simp [World.putObj], fun k _ hk => by simp only [World.putObj]; rw [Array.getElem?_setIfInBounds_ne (fun e => hk (by rw [e]))]⟩

theorem heap_put {w : World} {x : Nat} {o : Obj} (h : x < w.heap.size) : (w.putObj x o).heap[x]? = some o := by
  simp [World.putObj, h]

theorem run_getLoop {l : Nat} {r : Loop} (h : w.heap[l]? = some (.loop r)) : (Instr.getLoop l).run P w = .ok r w := by
  simp [Instr.getLoop, getObj, Sem.run, h]

theorem run_setObj {l : Nat} {r : Loop} {o : Obj} (h : w.heap[l]? = some (.loop r)) : (setObj l o).run P w = .ok () (w.putObj l o) := by
  simp [setObj, Sem.run, h, World.putObj]

/-- a loop's record turns -/
theorem Sim.loop (S : Sim base w0 g H w) {b : Nat} {st st' : LoopState} {pend pend' : Option Code} {f : FuncId} {T : Env} {n : Nat} {ps : Array Tmp} {assign body : Code} {D : Nat}
    (hb : H[b]? = some (.loop st pend f T n ps assign body D)) : ∃ (l : Nat) (tmps : Array Value) (f' : FuncId) (D' : Nat), g.ph b = some l ∧ l < w.heap.size ∧ TRel g n T tmps ∧ w.heap[l]? = some (.loop { state := st, pending := pend, fn := f', tmps, params := ps, assign, body, defers := D' }) ∧
      Sim base w0 g (H.set b (.loop st' pend' f T n ps assign body D)) (w.putObj l (.loop { state := st', pending := pend', fn := f', tmps, params := ps, assign, body, defers := D' })) := by
  obtain ⟨l, o, h1, h2, h3⟩ := S.obj b _ hb (by simp)
  cases h3 with
  | loop hT =>
    rename_i f' D' tmps
    have hlt := (S.pos b l h1).2
    exact ⟨l, tmps, f', D', h1, hlt, hT, h2, S.turn hb (by simp) h1 (grownBy_put w l _) (heap_put hlt) (.loop hT)⟩

def setPs (T : Env) (l : List (Nat × AV)) : Env := l.foldl (fun T p => upd T p.1 p.2) T

theorem setPs_rel {n : Nat} : ∀ (ps : List Nat) (as : List AV) (us : List Value) (T : Env) (tmps : Array Value), ps.length = as.length → as.length = us.length → (∀ (i : Nat) (a : AV) (u : Value), as[i]? = some a → us[i]? = some u → R g a u) →
    (∀ p ∈ ps, p < n) → TRel g n T tmps → TRel g n (setPs T (ps.zip as)) ((ps.zip us).foldl (fun t (p, v) => t.setIfInBounds p v) tmps)
  | [], as, us, T, tmps, h1, h2, _, _, hT => by
    cases as with
    | nil => cases us with
      | nil => exact hT
      | cons _ _ => simp at h2
    | cons _ _ => simp at h1
  | p :: ps, as, us, T, tmps, h1, h2, hr, hp, hT => by
    cases as with
    | nil => simp at h1
    | cons a as =>
      cases us with
      | nil => simp at h2
      | cons u us =>
        refine setPs_rel ps as us _ _ (by simpa using h1) (by simpa using h2) (fun i a u ha hu => hr (i + 1) a u (by simpa using ha) (by simpa using hu)) (fun q hq => hp q (by simp [hq])) ?_
        have := TRel.put (a := { tmps, defers := [] }) (dst := some p) hT (by simpa [dstOk] using hp p (by simp)) (hr 0 a u rfl rfl)
        exact this

def roundQ (b : Nat) (H0 : Hp) (Post : AV → Hp → Prop) : Exit → Env → Hp → Prop := fun e _ H =>
  ∃ st pend f T n ps assign body D, H[b]? = some (.loop st pend f T n ps assign body D) ∧
    match e with
    | .normal => ∃ H2, Vs H0 (.val (.bool true)) (H.set b (.loop .ready none f T n ps assign body D)) (.val (.bool true)) H2 ∧ Post (.val (.bool true)) H2
    | .ret => ∃ H2, Vs H0 (.val (.bool false)) (H.set b (.loop .done (some .ret) f T n ps assign body D)) (.val (.bool false)) H2 ∧ Post (.val (.bool false)) H2
    | .exit id => ∃ H2, Vs H0 (.val (.bool false)) (H.set b (.loop .done (some (.exit id)) f T n ps assign body D)) (.val (.bool false)) H2 ∧ Post (.val (.bool false)) H2
    | .goto t => ∃ H2, Vs H0 (.val (.bool false)) (H.set b (.loop .done (some (.goto t)) f T n ps assign body D)) (.val (.bool false)) H2 ∧ Post (.val (.bool false)) H2
    | _ => False

/-- a round, out of the loop's body -/
theorem AYield.of_body {b : Nat} {pend : Option Code} {f : FuncId} {T : Env} {n : Nat} {ps : Array Tmp} {assign body : Code} {D : Nat} {args : List AV} {Post : AV → Hp → Prop}
    (hb : H[b]? = some (.loop .ready pend f T n ps assign body D)) (hl : args.length = ps.size) (hps : ∀ p ∈ ps.toList, p < n)
    (h : Awp P n (some b) assign (setPs T (ps.toList.zip args)) H (fun e T1 H1 => e = .normal ∧ ∃ pend f T n' ps assign body' D, H1[b]? = some (.loop .ready pend f T n' ps assign body' D) ∧
      Awp P n (some b) body T1 (H1.set b (.loop .busy pend f T n' ps assign body' D)) (roundQ b H Post))) : AYield P b args H Post := by
  intro base w0 g w vs l S hr hph
  obtain ⟨l', tmps, f', D', h1, h2, hT, h3, -⟩ := S.loop (st' := .ready) (pend' := none) hb
  rw [hph] at h1; cases h1
  have hsz := hr.size
  refine ⟨f', (ps.zip vs).foldl (fun tmps (t, a) => tmps.setIfInBounds t a) tmps, assign, body, ?_, roundIn_of_wpIn (F := Fence.wide) (n := 0) trivial ?_⟩
  · unfold Instr.yield
    rw [Sem.run_bind, run_getLoop h3]
    simp only [Result.andThen_ok]
    rw [if_neg (by omega)]
    rfl
  · have hT' : TRel g n (setPs T (ps.toList.zip args)) ((ps.zip vs).foldl (fun tmps (t, a) => tmps.setIfInBounds t a) tmps) := by
      have := setPs_rel (g := g) (n := n) ps.toList args vs.toList T tmps (by simpa using hl.symm) (by simpa using hsz) (fun i a u ha hu => hr.cell i a u ha (by simpa using hu)) hps hT
      rw [← Array.foldl_toList, Array.toList_zip]
      exact this
    refine wpIn_mono (h base w0 g w { tmps := _, defers := [] } (some l) S hT' hph) fun e a1 w1 ⟨T1, H1, g1, ds, ⟨he, pend1, f1, TT, n1, ps1, as1, bd1, D1, hb1, hbody⟩, k1, k2, k3, k4, k5⟩ => ?_
    subst he
    obtain ⟨l1, tmps1, f1', D1', m1, m2, m3, m4, m5⟩ := k2.loop (st' := .busy) (pend' := pend1) hb1
    have : l1 = l := by have := k1.ph b l hph; rw [m1] at this; cases this; rfl
    subst this
    refine ⟨_, ?_, wpIn_mono (hbody base w0 g1 _ a1 (some l1) m5 k3 m1) fun e2 a2 w2 ⟨T2, H2, g2, ds2, ⟨st2, pend2, f2, TT2, n2, ps2, as2, bd2, D2, hb2, hpost⟩, j1, j2, j3, j4, j5⟩ => ?_⟩
    · unfold Instr.beginRound
      rw [Sem.run_bind, run_getLoop m4]
      simp only [Result.andThen_ok, Sem.run_bind, run_setObj m4, Sem.run_pure]
    · have hbel : ∀ (c : Nat) (ob : AObj), H[c]? = some ob → ob ≠ .dead → BelO H.length ob := by
        intro c ob hc hn
        obtain ⟨x, o, _, _, h3⟩ := S.obj c ob hc hn
        exact h3.bel S.dom
      have fin : ∀ (jump : Option Code), (∀ t : Bool, t = jump.isNone → ∃ H3, Vs H (.val (.bool t)) (H2.set b (.loop (if jump.isNone then .ready else .done) jump f2 TT2 n2 ps2 as2 bd2 D2)) (.val (.bool t)) H3 ∧ Post (.val (.bool t)) H3) →
          ∃ v w', (Instr.endRound l1 jump).run P w2 = .ok v w' ∧ ∃ v' a H' g', Ending.returned v = .returned v' ∧ Post a H' ∧ g.le g' ∧ Sim base w0 g' H' w' ∧ R g' a v' := by
        intro jump hp
        obtain ⟨l2, tmps2, f2', D2', q1, q2, q3, q4, q5⟩ := j2.loop (st' := if jump.isNone then .ready else .done) (pend' := jump) hb2
        have : l2 = l1 := by have := j1.ph b l1 m1; rw [q1] at this; cases this; rfl
        subst this
        obtain ⟨H3, hv, hpost⟩ := hp _ rfl
        obtain ⟨g3, r1, r2, r3⟩ := hv base w0 g g2 _ (.bool jump.isNone) S.dom hbel (k1.trans j1) q5 (.val _)
        refine ⟨.bool jump.isNone, _, ?_, .bool jump.isNone, .val (.bool jump.isNone), H3, g3, rfl, hpost, r1, r2, r3⟩
        unfold Instr.endRound
        rw [Sem.run_bind, run_getLoop q4]
        simp only [Result.andThen_ok, Sem.run_bind, run_setObj q4, Sem.run_pure]
      cases e2 with
      | normal => exact fin none (fun t ht => by subst ht; exact hpost)
      | ret => exact fin (some .ret) (fun t ht => by subst ht; exact hpost)
      | exit id => exact fin (some (.exit id)) (fun t ht => by subst ht; exact hpost)
      | goto t => exact fin (some (.goto t)) (fun t ht => by subst ht; exact hpost)
      | panic c => exact hpost
      | outgrown => exact hpost

def rangeQ (P : Program) (n : Nat) (rd : Option Nat) (T : Env) (b : Nat) (Q : Exit → Env → Hp → Prop) : AV → Hp → Prop := fun _ H2 =>
  ∃ st pend f T' n' ps assign body D, H2[b]? = some (.loop st pend f T' n' ps assign body D) ∧ st ≠ .busy ∧
    match pend with
    | none => Q .normal T (H2.set b .dead)
    | some c => Awp P n rd c T (H2.set b .dead) Q

theorem range_core {n : Nat} {rd : Option Nat} {T : Env} {Q : Exit → Env → Hp → Prop} {gop : Operand} {ps : Array Tmp} {assign body : Code} {H : Hp} {a : Act} {g g1 : Gh} {w1 : World} {r : Option Nat} {l D : Nat} {mark : List Deferred} {f : FuncId}
    (hg : g.le g1) (S : Sim base w0 g1 (H ++ [.loop .ready none f T n ps assign body D]) w1) (hT : TRel g n T a.tmps) (hr : rdOk g rd r) (hl : g1.ph H.length = some l) (hm : Marks g g1 mark)
    {k : FuncId} {cap : List AV} (e : evA T gop = .fn (.func k) cap) (h : ACalls P k ([.fn (.yield H.length) []] ++ cap) (H ++ [.loop .ready none f T n ps assign body D]) (rangeQ P n rd T H.length Q)) :
    ∃ (d : Deferred) (w₁' : World) (f : FuncId) (args : Array Value) (w₂ : World),
      (resolve a.eval (rangeCall gop l) 0).run P w1 = .ok d w₁' ∧ (∀ f', Target.leads P w₁' d.target d.args = some f' → (FR r).fn f') ∧
      (invoke d.target d.args).run P w₁' = .ok (.enter f args) w₂ ∧ ((FR r).depth.isSome = true → 1 ≤ 0) ∧
      CallsIn (FR r) (0 - 1) P f args w₂ (rangePost (FR r) 0 P l (fun e a' w' => ∃ T' H' g' ds, Q e T' H' ∧ g.le g' ∧ Sim base w0 g' H' w' ∧ TRel g' n T' a'.tmps ∧ a'.defers = ds ++ a.defers ∧ Marks g g' ds) { a with defers := mark ++ a.defers }) := by
  have hf := evA_rel hT gop
  rw [e] at hf
  generalize hfv : a.eval gop = fv at hf
  cases hf with
  | fn hy hcl hcr =>
    rename_i vs
    obtain ⟨hc1, hc2⟩ := h
    have hyl : R g1 (.fn (.yield H.length) []) (.func (.yield l) #[] #[]) := .yld hl
    have hargs : RCells g1 ([.fn (.yield H.length) []] ++ cap) (#[.func (.yield l) #[] #[]] ++ vs) := (RCells.one hyl).append ((RCells.mk hcl hcr).mono hg)
    have hcall := hc2 base w0 g1 w1 _ S hargs
    refine ⟨{ target := .fn (.func k) vs, args := #[.func (.yield l) #[] #[]] }, w1, k, #[.func (.yield l) #[] #[]] ++ vs, w1, ?_, fun _ _ => trivial, ?_, fun h => by simp [FR, Fence.wide] at h, ?_⟩
    · have ha : (rangeCall gop l).args.map a.eval = #[.func (.yield l) #[] #[]] := by simp [Act.eval]
      show (Deferred.ofValue (a.eval gop) ((rangeCall gop l).args.map a.eval)).run P w1 = _
      rw [hfv, ha]; rfl
    · unfold callable at hc1
      split at hc1
      · rename_i fn hfn
        simp only [Bool.and_eq_true, Bool.not_eq_true'] at hc1
        have hb : fn.body ≠ none := by intro hb; simp [hb] at hc1
        have hne : fn.name ≠ "runtime.NumGoroutine" := by simpa using hc1.2
        simp [invoke, callFunc, hfn, hne, hb]
      · cases hc1
    · refine (CallsIn.mono hcall fun e w3 ⟨v, a3, H3, g3, h1, h2, h3, h4, h5⟩ => ?_ : CallsIn Fence.wide 0 P k (#[.func (.yield l) #[] #[]] ++ vs) w1 _)
      subst h1
      obtain ⟨st, pend, f', T', n', ps', as', bd', D', hb, hst, hpost⟩ := h2
      obtain ⟨l3, tmps3, f3', D3', m1, m2, m3, m4, m5⟩ := h4.loop (st' := .exhausted) (pend' := pend) hb
      have : l3 = l := by have := h3.ph _ l hl; rw [m1] at this; cases this; rfl
      subst this
      have S4 := m5.dead H.length
      rw [List.set_set] at S4
      have S40 := S4; clear S4
      have hgg : g.le g3 := hg.trans h3
      have hmm : Marks g g3 mark := by simpa using hm.append (Marks.nil g1 g3) hg h3
      obtain ⟨w4, hend, S4⟩ : ∃ w4, (Instr.endLoop l3).run P w3 = .ok pend w4 ∧ Sim base w0 g3 (H3.set H.length .dead) w4 := by
        refine ⟨_, ?_, S40⟩
        unfold Instr.endLoop
        rw [Sem.run_bind, run_getLoop m4]
        simp only [Result.andThen_ok]
        rw [if_neg (by cases st <;> first | exact absurd rfl hst | simp)]
        simp only [Sem.run_bind, run_setObj m4, Result.andThen_ok, Sem.run_pure]
      refine ⟨pend, w4, hend, ?_⟩
      cases pend with
      | none => exact ⟨T, _, g3, mark, hpost, hgg, S4, hT.mono hgg, rfl, hmm⟩
      | some c =>
          refine wpIn_mono (hpost base w0 g3 _ { a with defers := mark ++ a.defers } r S4 (hT.mono hgg) (hr.mono hgg)) fun e a4 w4 ⟨T4, H4, g4, ds4, k1, k2, k3, k4, k5, k6⟩ => ?_
          exact ⟨T4, H4, g4, ds4 ++ mark, k1, hgg.trans k2, k3, k4, by rw [k5]; simp, hmm.append k6 hgg k2⟩

/-- for .. := range gop { body }, in no loop over a function -/
theorem Awp.range {n : Nat} {T : Env} {Q : Exit → Env → Hp → Prop} {gop : Operand} {ps : Array Tmp} {assign body : Code} {k : FuncId} {cap : List AV} (e : evA T gop = .fn (.func k) cap)
    (h : ∀ f D, ACalls P k ([.fn (.yield H.length) []] ++ cap) (H ++ [.loop .ready none f T n ps assign body D]) (rangeQ P n none T H.length Q)) : Awp P n none (.rangeFunc gop ps assign body) T H Q := by
  intro base w0 g w a r S hT hr
  cases r with
  | some l => exact hr.elim
  | none =>
    refine wpIn_rangeFunc fun fn hfn => ?_
    have S1 := S.allocMk
    have hle1 : g.le (g.mkAdd w.heap.size) := Sim.mkAdd_le _
    have hle2 : (g.mkAdd w.heap.size).le ((g.mkAdd w.heap.size).phAdd H.length (w.alloc (.deferred (some []))).heap.size 0 0) := Gh.phAdd_le S1.fresh
    have hT1 := hT.mono (hle1.trans hle2)
    have S2 := S1.alloc (k := 0) (c := 0) (ob := .loop .ready none fn T n ps assign body w.heap.size) (World.grownBy_alloc _ (.loop { state := .ready, pending := none, fn, tmps := a.tmps, params := ps, assign, body, defers := w.heap.size }) none) (heap_alloc_new _ _) (.loop hT1)
    obtain ⟨d, w1, f, args, w2, h1, h2, h3, h4, h5⟩ := range_core (P := P) (gop := gop) (mark := [⟨.collected w.heap.size, #[]⟩]) (hle1.trans hle2) S2 hT hr (by simp [Gh.phAdd]; rfl) ⟨by
      intro d hd
      simp only [List.mem_singleton] at hd
      subst hd
      exact ⟨_, rfl, .inl rfl, fun hm => absurd (S.marks _ hm).2.1 (Nat.lt_irrefl _)⟩, by simp⟩ e (h fn w.heap.size)
    refine ⟨_, _, _, d, w1, f, args, w2, ?_, h1, h2, h3, h4, h5⟩
    simp [Instr.enterLoop, FR, Sem.run_bind]

/-- the same within a round of the loop b0 -/
theorem Awp.rangeIn {n b0 : Nat} {T : Env} {Q : Exit → Env → Hp → Prop} {gop : Operand} {ps : Array Tmp} {assign body : Code} {k : FuncId} {cap : List AV} (e : evA T gop = .fn (.func k) cap)
    {st : LoopState} {pend : Option Code} {f0 : FuncId} {T0 : Env} {n0 : Nat} {ps0 : Array Tmp} {assign0 body0 : Code} {D0 : Nat} (hb0 : H[b0]? = some (.loop st pend f0 T0 n0 ps0 assign0 body0 D0))
    (h : ∀ f D, ACalls P k ([.fn (.yield H.length) []] ++ cap) (H ++ [.loop .ready none f T n ps assign body D]) (rangeQ P n (some b0) T H.length Q)) : Awp P n (some b0) (.rangeFunc gop ps assign body) T H Q := by
  intro base w0 g w a r S hT hr
  cases r with
  | none => exact hr.elim
  | some l0 =>
    refine wpIn_rangeFunc fun fn hfn => ?_
    obtain ⟨l', tmps0, f0', D0', m1, m2, m3, m4, _⟩ := S.loop (st' := .ready) (pend' := none) hb0
    have : l' = l0 := by have hr' : g.ph b0 = some l0 := hr; rw [m1] at hr'; cases hr'; rfl
    subst this
    have hle2 : g.le (g.phAdd H.length w.heap.size 0 0) := Gh.phAdd_le S.fresh
    have hT1 := hT.mono hle2
    have S2 := S.alloc (k := 0) (c := 0) (ob := .loop .ready none fn T n ps assign body D0') (World.grownBy_alloc _ (.loop { state := .ready, pending := none, fn, tmps := a.tmps, params := ps, assign, body, defers := D0' }) none) (heap_alloc_new _ _) (.loop hT1)
    obtain ⟨d, w1, f, args, w2, h1, h2, h3, h4, h5⟩ := range_core (P := P) (gop := gop) (mark := []) hle2 S2 hT hr (by simp [Gh.phAdd]; rfl) (Marks.nil _ _) e (h fn D0')
    refine ⟨_, _, _, d, w1, f, args, w2, ?_, h1, h2, h3, h4, h5⟩
    simp [Instr.enterLoop, FR, Sem.run_bind, run_getLoop m4]

end Go.Proofs.Ytphfdbmbdaninaa.Ab
