/- Awp: an abstract weakest precondition of code, its rules, and a function's contract out of its body. -/
import Derived.Test.YtphfdbmbdaninaaB0
import Derived.RangeFuncRecord
namespace Go.Proofs.Ytphfdbmbdaninaa.Ab
open Go Go.RowKit

variable {base : Nat} {w0 w w' : World} {g : Gh} {H : Hp} {P : Program}

def rdOk (g : Gh) : Option Nat → Option Nat → Prop
  | none, none => True
  | some b, some l => g.ph b = some l
  | _, _ => False

theorem rdOk.mono {g g' : Gh} (hg : g.le g') {rd r : Option Nat} (h : rdOk g rd r) : rdOk g' rd r := by
  cases rd <;> cases r <;> first | exact h | exact hg.ph _ _ h

/-- the marks that loops over functions have left among the deferred calls -/
structure Marks (g g' : Gh) (ds : List Deferred) : Prop where
  mark : ∀ d ∈ ds, ∃ r, d = ⟨.collected r, #[]⟩ ∧ g'.mr r ∧ ¬ g.mr r
  nodup : ds.Pairwise fun d e => d.target ≠ e.target ∨ d.args ≠ e.args

theorem Marks.nil (g g' : Gh) : Marks g g' [] := ⟨by simp, .nil⟩

theorem Marks.append {g g1 g2 : Gh} {ds es : List Deferred} (h : Marks g g1 ds) (k : Marks g1 g2 es) (h1 : g.le g1) (h2 : g1.le g2) : Marks g g2 (es ++ ds) := by
  refine ⟨fun d hd => ?_, ?_⟩
  · rcases List.mem_append.1 hd with hd | hd
    · obtain ⟨r, e, a, b⟩ := k.mark d hd
      exact ⟨r, e, a, fun c => b (h1.mr r c)⟩
    · obtain ⟨r, e, a, b⟩ := h.mark d hd
      exact ⟨r, e, h2.mr r a, b⟩
  · rw [List.pairwise_append]
    refine ⟨k.nodup, h.nodup, fun d hd e he => ?_⟩
    obtain ⟨r, rfl, a, b⟩ := k.mark d hd
    obtain ⟨s, rfl, c, d'⟩ := h.mark e he
    refine .inl fun x => ?_
    cases x
    exact b c

def Awp (P : Program) (n : Nat) (rd : Option Nat) (c : Code) (T : Env) (H : Hp) (Q : Exit → Env → Hp → Prop) : Prop :=
  ∀ (base : Nat) (w0 : World) (g : Gh) (w : World) (a : Act) (r : Option Nat), Sim base w0 g H w → TRel g n T a.tmps → rdOk g rd r →
    c.wpIn (FR r) 0 P (fun e a' w' => ∃ T' H' g' ds, Q e T' H' ∧ g.le g' ∧ Sim base w0 g' H' w' ∧ TRel g' n T' a'.tmps ∧ a'.defers = ds ++ a.defers ∧ Marks g g' ds) a w

variable {n : Nat} {rd : Option Nat} {T : Env} {Q Q' : Exit → Env → Hp → Prop}

theorem Awp.mono {c : Code} (h : Awp P n rd c T H Q) (hq : ∀ e T' H', Q e T' H' → Q' e T' H') : Awp P n rd c T H Q' :=
  fun base w0 g w a r S hT hr => wpIn_mono (h base w0 g w a r S hT hr) fun _ _ _ ⟨T', H', g', ds, h1, h2⟩ => ⟨T', H', g', ds, hq _ _ _ h1, h2⟩

theorem Awp.skip (h : Q .normal T H) : Awp P n rd .skip T H Q :=
  fun _ _ g _ _ _ S hT _ => wpIn_skip ⟨T, H, g, [], h, Gh.le.refl g, S, hT, rfl, Marks.nil _ _⟩
theorem Awp.label {l : Nat} (h : Q .normal T H) : Awp P n rd (.label l) T H Q :=
  fun _ _ g _ _ _ S hT _ => wpIn_label ⟨T, H, g, [], h, Gh.le.refl g, S, hT, rfl, Marks.nil _ _⟩
theorem Awp.exit {id : Nat} (h : Q (.exit id) T H) : Awp P n rd (.exit id) T H Q :=
  fun _ _ g _ _ _ S hT _ => wpIn_exit ⟨T, H, g, [], h, Gh.le.refl g, S, hT, rfl, Marks.nil _ _⟩
theorem Awp.goto {l : Nat} (h : Q (.goto l) T H) : Awp P n rd (.goto l) T H Q :=
  fun _ _ g _ _ _ S hT _ => wpIn_goto ⟨T, H, g, [], h, Gh.le.refl g, S, hT, rfl, Marks.nil _ _⟩
theorem Awp.ret (h : Q .ret T H) : Awp P n rd .ret T H Q :=
  fun _ _ g _ _ _ S hT _ => wpIn_ret ⟨T, H, g, [], h, Gh.le.refl g, S, hT, rfl, Marks.nil _ _⟩

def thenQ (k : Env → Hp → Prop) (Q : Exit → Env → Hp → Prop) : Exit → Env → Hp → Prop
  | .normal, T, H => k T H
  | e, T, H => Q e T H

def blockQ (id : Nat) (Q : Exit → Env → Hp → Prop) : Exit → Env → Hp → Prop
  | .exit i, T, H => if i = id then Q .normal T H else Q (.exit i) T H
  | e, T, H => Q e T H

theorem Awp.seq {x y : Code} (h : Awp P n rd x T H (thenQ (fun T' H' => Awp P n rd y T' H' Q) Q)) : Awp P n rd (.seq x y) T H Q := by
  intro base w0 g w a r S hT hr
  refine wpIn_seq (wpIn_mono (h base w0 g w a r S hT hr) fun e a' w' ⟨T', H', g', ds, h1, h2, h3, h4, h5, h6⟩ => ?_)
  cases e with
  | normal =>
    refine wpIn_mono (h1 base w0 g' w' a' r h3 h4 (hr.mono h2)) fun e a'' w'' ⟨T'', H'', g'', es, k1, k2, k3, k4, k5, k6⟩ => ?_
    exact ⟨T'', H'', g'', es ++ ds, k1, h2.trans k2, k3, k4, by rw [k5, h5, List.append_assoc], h6.append k6 h2 k2⟩
  | exit id => exact ⟨T', H', g', ds, h1, h2, h3, h4, h5, h6⟩
  | goto l => exact ⟨T', H', g', ds, h1, h2, h3, h4, h5, h6⟩
  | ret => exact ⟨T', H', g', ds, h1, h2, h3, h4, h5, h6⟩
  | panic c => exact ⟨T', H', g', ds, h1, h2, h3, h4, h5, h6⟩
  | outgrown => exact ⟨T', H', g', ds, h1, h2, h3, h4, h5, h6⟩

theorem Awp.cond {c : Operand} {x y : Code} {t : Bool} (hc : evA T c = .val (.bool t)) (hx : t = true → Awp P n rd x T H Q) (hy : t = false → Awp P n rd y T H Q) : Awp P n rd (.cond c x y) T H Q := by
  intro base w0 g w a r S hT hr
  have hcv : a.eval c = .bool t := by
    have := evA_rel hT c
    rw [hc] at this
    generalize a.eval c = v at this
    cases this
    rfl
  exact wpIn_cond_split hcv (fun h => hx h base w0 g w a r S hT hr) (fun h => hy h base w0 g w a r S hT hr)

theorem Awp.block {id : Nat} {c : Code} (h : Awp P n rd c T H (blockQ id Q)) : Awp P n rd (.block id c) T H Q := by
  intro base w0 g w a r S hT hr
  refine wpIn_block (wpIn_mono (h base w0 g w a r S hT hr) fun e a' w' ⟨T', H', g', ds, h1, h2⟩ => ?_)
  cases e with
  | exit i =>
    simp only [blockQ] at h1
    simp only [Exit.inBlock]
    by_cases hi : i = id
    · rw [if_pos hi] at h1 ⊢; exact ⟨T', H', g', ds, h1, h2⟩
    · rw [if_neg hi] at h1 ⊢; exact ⟨T', H', g', ds, h1, h2⟩
  | normal => exact ⟨T', H', g', ds, h1, h2⟩
  | goto l => exact ⟨T', H', g', ds, h1, h2⟩
  | ret => exact ⟨T', H', g', ds, h1, h2⟩
  | panic c => exact ⟨T', H', g', ds, h1, h2⟩
  | outgrown => exact ⟨T', H', g', ds, h1, h2⟩

theorem Awp.region {mu : Nat → Bool} {id : Nat} {ops : Array Oper} (h : ∀ K : Env → Hp → Prop, (∀ T' H', Q .normal T' H' → K T' H') → wpO P mu n none [] ops.toList T H K) : Awp P n rd (.region id ops false) T H Q := by
  intro base w0 g w a r S hT hr
  refine wpIn_region_list ?_
  have := wpO_sound (P := P) (mu := mu) (n := n) (d := none) (ops := ops.toList) (r := r) (base := base) (w0 := w0) (ds := a.defers) (g0 := g) (K := Q .normal)
    (Q := fun e a' w' => ∃ T' H' g' ds, Q e T' H' ∧ g.le g' ∧ Sim base w0 g' H' w' ∧ TRel g' n T' a'.tmps ∧ a'.defers = ds ++ a.defers ∧ Marks g g' ds)
    (fun T H g' w a' hk hg S' hT' hd => ⟨T, H, g', [], hk, hg, S', hT', hd, Marks.nil _ _⟩) ops.toList [] T H g w a (by simp) (by simp) (Gh.le.refl g) S hT rfl (h _ fun _ _ h => h)
  exact this

theorem wpIn_loop_ind {F : Fence} {m : Nat} {c : Code} {Q : Exit → Act → World → Prop} {a : Act} {w : World} {ι : Type} (I : ι → Act → World → Prop) (μ : ι → Nat) (i0 : ι) (h₀ : I i0 a w)
    (round : ∀ i a w, I i a w → c.wpIn F m P (Exit.then (fun a' w' => ∃ j, I j a' w' ∧ μ j < μ i) Q) a w) : (Code.loop c).wpIn F m P Q a w := by
  intro b k cs hro hb hr
  have key : ∀ j i a w, μ i = j → I i a w →
      ∃ e a' w', Q e a' w' ∧ ArrivesIn (Machine.fenced P F) P (lone (b.atR a (.code c :: .inLoop c :: k)) cs w) b k cs e a' w' := by
    intro j
    induction j using Nat.strongRecOn with
    | _ j ih =>
      intro i a w hn hI
      obtain ⟨e, a₁, w₁, hq, harr⟩ := round i a w hI b (.inLoop c :: k) cs hro hb hr
      cases e with
      | normal =>
        obtain ⟨i₁, hI₁, hlt⟩ := hq
        obtain ⟨e₂, a₂, w₂, hq₂, harr₂⟩ := ih (μ i₁) (hn ▸ hlt) i₁ a₁ w₁ rfl hI₁
        exact ⟨e₂, a₂, w₂, hq₂, .of_steps (StepsIn.trans harr (.one (fenced_calm hb hr rfl) stepR_inLoop)) harr₂⟩
      | exit id => exact ⟨_, a₁, w₁, hq, .pass (x := .inLoop c) rfl (fun _ _ => .inl (by simp)) harr⟩
      | goto l => exact ⟨_, a₁, w₁, hq, .pass (x := .inLoop c) rfl (fun _ _ => .inl (by simp)) harr⟩
      | ret => exact ⟨_, a₁, w₁, hq, .pass (x := .inLoop c) rfl (fun _ _ => .inl (by simp)) harr⟩
      | panic ch => exact ⟨_, a₁, w₁, hq, .pass (x := .inLoop c) rfl (fun _ _ => .inl (by simp)) harr⟩
      | outgrown => exact ⟨_, a₁, w₁, hq, .pass (x := .inLoop c) rfl (fun _ _ => .inl (by simp)) harr⟩
  obtain ⟨e, a', w', hq, harr⟩ := key _ i0 a w rfl h₀
  exact ⟨e, a', w', hq, .of_steps (.one (fenced_calm hb hr rfl) stepR_loop) harr⟩

/-- a loop, by a relation over states of the prover's own and a measure of these -/
theorem Awp.loop {c : Code} {ι : Type} (I : ι → Env → Hp → Prop) (μ : ι → Nat) (i0 : ι) (h0 : I i0 T H)
    (round : ∀ i T H, I i T H → Awp P n rd c T H (thenQ (fun T' H' => ∃ j, I j T' H' ∧ μ j < μ i) Q)) : Awp P n rd (.loop c) T H Q := by
  intro base w0 g w a r S hT hr
  refine wpIn_loop_ind (ι := ι) (fun i a' w' => ∃ T' H' g' ds, I i T' H' ∧ g.le g' ∧ Sim base w0 g' H' w' ∧ TRel g' n T' a'.tmps ∧ a'.defers = ds ++ a.defers ∧ Marks g g' ds) μ i0
    ⟨T, H, g, [], h0, Gh.le.refl g, S, hT, rfl, Marks.nil _ _⟩ ?_
  rintro i a1 w1 ⟨T1, H1, g1, ds, h1, h2, h3, h4, h5, h6⟩
  refine wpIn_mono (round i T1 H1 h1 base w0 g1 w1 a1 r h3 h4 (hr.mono h2)) fun e a2 w2 ⟨T2, H2, g2, es, k1, k2, k3, k4, k5, k6⟩ => ?_
  have hall : a2.defers = (es ++ ds) ++ a.defers := by rw [k5, h5, List.append_assoc]
  have hm := h6.append k6 h2 k2
  cases e with
  | normal =>
    obtain ⟨j, hj, hlt⟩ := k1
    exact ⟨j, ⟨T2, H2, g2, es ++ ds, hj, h2.trans k2, k3, k4, hall, hm⟩, hlt⟩
  | exit id => exact ⟨T2, H2, g2, es ++ ds, k1, h2.trans k2, k3, k4, hall, hm⟩
  | goto l => exact ⟨T2, H2, g2, es ++ ds, k1, h2.trans k2, k3, k4, hall, hm⟩
  | ret => exact ⟨T2, H2, g2, es ++ ds, k1, h2.trans k2, k3, k4, hall, hm⟩
  | panic c => exact ⟨T2, H2, g2, es ++ ds, k1, h2.trans k2, k3, k4, hall, hm⟩
  | outgrown => exact ⟨T2, H2, g2, es ++ ds, k1, h2.trans k2, k3, k4, hall, hm⟩

/-! ### what a function hands back -/

/-- what abstract references below n a value has -/
inductive Bel (n : Nat) : AV → Prop
  | val (v : Value) : Bel n (.val v)
  | rptr {cs : List AV} {off : Nat} (h : ∀ c ∈ cs, Bel n c) : Bel n (.rptr cs off)
  | mptr {b i off : Nat} (h : b < n) : Bel n (.mptr b i off)
  | rsl {es : List (List AV)} {ex : Bool} (h : ∀ e ∈ es, ∀ c ∈ e, Bel n c) : Bel n (.rsl es ex)
  | msl {b off len : Nat} (h : b < n) : Bel n (.msl b off len)
  | fn {f : Fn} {cap : List AV} (hy : ∀ l, f ≠ .yield l) (h : ∀ c ∈ cap, Bel n c) : Bel n (.fn f cap)
  | mth {f : FuncId} {pre : List AV} (h : ∀ c ∈ pre, Bel n c) : Bel n (.mth f pre)
  | yld {b : Nat} (h : b < n) : Bel n (.fn (.yield b) [])
  | mp {b : Nat} (h : b < n) : Bel n (.mp b)
  | agg {cs : List AV} (h : ∀ c ∈ cs, Bel n c) : Bel n (.agg cs)
  | tup {cs : List AV} (h : ∀ c ∈ cs, Bel n c) : Bel n (.tup cs)

theorem R.bel {g : Gh} {m : Nat} (hd : ∀ b x, g.ph b = some x → b < m) {a : AV} {v : Value} (h : R g a v) : Bel m a := by
  have arr : ∀ (cs : List AV) (vs : Array Value), cs.length = vs.size → (∀ (i : Nat) (c : AV) (v : Value), cs[i]? = some c → vs[i]? = some v → Bel m c) → ∀ c ∈ cs, Bel m c := by
    intro cs vs hl ih c hc
    obtain ⟨i, hi⟩ := List.getElem?_of_mem hc
    have hlt : i < vs.size := by rw [← hl]; exact (List.getElem?_eq_some_iff.1 hi).1
    exact ih i c vs[i] hi (Array.getElem?_eq_getElem hlt)
  induction h with
  | val v => exact .val v
  | rptr vs hf _ ih => exact .rptr fun c hc => by obtain ⟨i, hi⟩ := List.getElem?_of_mem hc; exact ih i c hi
  | mptr h => exact .mptr (hd _ _ h)
  | rnil => exact .rsl fun e he => by cases he
  | rsl vs hn hl hc hm hk hf _ ih =>
    exact .rsl fun e he c hc => by
      obtain ⟨i, hi⟩ := List.getElem?_of_mem he
      obtain ⟨j, hj⟩ := List.getElem?_of_mem hc
      exact ih i e j c hi hj
  | msl h => exact .msl (hd _ _ h)
  | fn hy hl _ ih => exact .fn hy (arr _ _ hl ih)
  | mth hl _ ih => exact .mth (arr _ _ hl ih)
  | yld h => exact .yld (hd _ _ h)
  | mp h => exact .mp (hd _ _ h)
  | agg hl _ ih => exact .agg (arr _ _ hl ih)
  | tup hl _ ih => exact .tup (arr _ _ hl ih)

/-- own blocks from number m on are forgotten -/
def Gh.cut (g : Gh) (m : Nat) : Gh := { g with ph := fun b => if b < m then g.ph b else none }

theorem Bel.cut {m : Nat} {a : AV} (hb : Bel m a) : ∀ {g : Gh} {v : Value}, R g a v → R (g.cut m) a v := by
  have ph : ∀ (g : Gh) (b x : Nat), b < m → g.ph b = some x → (g.cut m).ph b = some x := fun g b x hb h => by
    show (if b < m then g.ph b else none) = some x
    rw [if_pos hb]; exact h
  induction hb with
  | val v => intro g v h; cases h; exact .val _
  | rptr _ ih => intro g v h; cases h with | rptr vs hf hr => exact .rptr vs hf fun i c hc => ih c (List.mem_of_getElem? hc) (hr i c hc)
  | mptr hb => intro g v h; cases h with | mptr h => exact R.mptr (g := g.cut m) (ph _ _ _ hb h)
  | rsl _ ih => intro g v h; cases h with | rnil a => exact .rnil a | rsl vs hn hl hc hm hk hf hr => exact .rsl vs hn hl hc hm hk hf fun i e j c he hc => ih e (List.mem_of_getElem? he) c (List.mem_of_getElem? hc) (hr i e j c he hc)
  | msl hb => intro g v h; cases h with | msl h hl hc hm => exact R.msl (g := g.cut m) (ph _ _ _ hb h) hl hc hm
  | fn hy _ ih => intro g v h; cases h with
    | fn hy hl hr => exact .fn hy hl fun i c v hc hv => ih c (List.mem_of_getElem? hc) (hr i c v hc hv)
    | yld h => exact absurd rfl (hy _)
  | mth _ ih => intro g v h; cases h with
    | mth hl hr => exact .mth hl fun i c v hc hv => ih c (List.mem_of_getElem? hc) (hr i c v hc hv)
  | yld hb => intro g v h; cases h with
    | fn hy => exact absurd rfl (hy _)
    | yld h => exact .yld (ph _ _ _ hb h)
  | mp hb => intro g v h; cases h with | mp h => exact .mp (ph _ _ _ hb h)
  | agg _ ih => intro g v h; cases h with | agg hl hr => exact .agg hl fun i c v hc hv => ih c (List.mem_of_getElem? hc) (hr i c v hc hv)
  | tup _ ih => intro g v h; cases h with | tup hl hr => exact .tup hl fun i c v hc hv => ih c (List.mem_of_getElem? hc) (hr i c v hc hv)

inductive BelO (m : Nat) : AObj → Prop
  | cells {es : List (List AV)} {t : TypeId} (h : ∀ e ∈ es, ∀ c ∈ e, Bel m c) : BelO m (.cells es t)
  | amap {es : List (AV × AV)} (h : ∀ e ∈ es, Bel m e.1 ∧ Bel m e.2) : BelO m (.amap es)
  | loop {st : LoopState} {pend : Option Code} {f : FuncId} {T : Nat → AV} {n : Nat} {params : Array Tmp} {assign body : Code} {defers : Nat} (h : ∀ t, Bel m (T t)) :
      BelO m (.loop st pend f T n params assign body defers)
  | dead : BelO m .dead

theorem ORel.bel {g : Gh} {m k cp : Nat} (hd : ∀ b x, g.ph b = some x → b < m) {ob : AObj} {o : Obj} (h : ORel g k cp ob o) : BelO m ob := by
  cases h with
  | cells hs hl hk hr =>
    refine .cells fun e he c hc => ?_
    obtain ⟨i, hi⟩ := List.getElem?_of_mem he
    obtain ⟨j, hj⟩ := List.getElem?_of_mem hc
    obtain ⟨v, _, h⟩ := hr i e j c hi hj
    exact h.bel hd
  | loop h => exact .loop fun t => (h.slot t).bel hd
  | amap hl hr hst =>
    refine .amap fun e he => ?_
    obtain ⟨i, hi⟩ := List.getElem?_of_mem he
    rename_i ms clock
    have hlt : i < ms.size := by rw [← hl]; exact (List.getElem?_eq_some_iff.1 hi).1
    have := hr i e ms[i] hi (Array.getElem?_eq_getElem hlt)
    exact ⟨this.1.bel hd, this.2.bel hd⟩
  | dead => exact .dead

theorem BelO.cut {m k cp : Nat} {ob : AObj} {o : Obj} (hb : BelO m ob) {g : Gh} (h : ORel g k cp ob o) : ORel (g.cut m) k cp ob o := by
  cases h with
  | cells hs hl hk hr =>
    cases hb with
    | cells hb => exact .cells hs hl hk fun i e j c he hc => let ⟨v, h1, h2⟩ := hr i e j c he hc; ⟨v, h1, (hb e (List.mem_of_getElem? he) c (List.mem_of_getElem? hc)).cut h2⟩
  | loop h =>
    cases hb with
    | loop hb => exact .loop ⟨h.size, fun t => (hb t).cut (h.slot t)⟩
  | amap hl hr hs =>
    cases hb with
    | amap hb => exact .amap hl (fun i e m he hm => ⟨(hb e (List.mem_of_getElem? he)).1.cut (hr i e m he hm).1, (hb e (List.mem_of_getElem? he)).2.cut (hr i e m he hm).2⟩) hs
  | dead => exact .dead _

/-- the last blocks of a heap may be forgotten, if nothing of the others leads to them -/
theorem Sim.cut {H1 X : Hp} (S : Sim base w0 g (H1 ++ X) w) (hb : ∀ (b : Nat) (ob : AObj), H1[b]? = some ob → ob ≠ .dead → BelO H1.length ob) : Sim base w0 (g.cut H1.length) H1 w := by
  have ph : ∀ b x, (g.cut H1.length).ph b = some x → b < H1.length ∧ g.ph b = some x := by
    intro b x h
    change (if b < H1.length then g.ph b else none) = some x at h
    split at h
    · exact ⟨by assumption, h⟩
    · cases h
  have old : ∀ (b : Nat) (ob : AObj), H1[b]? = some ob → (H1 ++ X)[b]? = some ob := by
    intro b ob h
    rw [List.getElem?_append_left (List.getElem?_eq_some_iff.1 h).1]; exact h
  exact
  { below := S.below
    low := S.low
    fz := S.fz
    dom := fun b x h => (ph b x h).1
    pos := fun b x h => S.pos b x (ph b x h).2
    sep := fun b x ob h hn hx => S.sep b x ob (old b ob h) hn (ph b x hx).2
    inj := fun b c x ob oc h hn h' hn' hx hx' => S.inj b c x ob oc (old b ob h) hn (old c oc h') hn' (ph b x hx).2 (ph c x hx').2
    obj := fun b ob h hn => by
      obtain ⟨x, o, h1, h2, h3⟩ := S.obj b ob (old b ob h) hn
      refine ⟨x, o, ?_, h2, (hb b ob h hn).cut h3⟩
      show (if b < H1.length then g.ph b else none) = some x
      rw [if_pos (List.getElem?_eq_some_iff.1 h).1]; exact h1
    marks := S.marks }

/-- a value and a heap may be told otherwise -/
def Vs (H0 : Hp) (a : AV) (H : Hp) (a' : AV) (H' : Hp) : Prop :=
  ∀ (base : Nat) (w0 : World) (g0 g : Gh) (w : World) (x : Value), (∀ b x, g0.ph b = some x → b < H0.length) → (∀ (b : Nat) (ob : AObj), H0[b]? = some ob → ob ≠ .dead → BelO H0.length ob) → g0.le g → Sim base w0 g H w → R g a x →
    ∃ g', g0.le g' ∧ Sim base w0 g' H' w ∧ R g' a' x

theorem Vs.refl (H0 : Hp) (a : AV) (H : Hp) : Vs H0 a H a H := fun _ _ _ g _ _ _ _ hg S hR => ⟨g, hg, S, hR⟩

theorem Vs.trans {H0 H1 H2 H3 : Hp} {a b c : AV} (h : Vs H0 a H1 b H2) (k : Vs H0 b H2 c H3) : Vs H0 a H1 c H3 := by
  intro base w0 g0 g w x hd hb hg S hR
  obtain ⟨g1, h1, h2, h3⟩ := h base w0 g0 g w x hd hb hg S hR
  exact k base w0 g0 g1 w x hd hb h1 h2 h3

/-- what the call has made is forgotten, if the result does not lead to it and what was there is as it was -/
theorem Vs.drop {H0 X : Hp} {a : AV} (ha : Bel H0.length a) : Vs H0 a (H0 ++ X) a H0 := by
  intro base w0 g0 g w x hd hb hg S hR
  refine ⟨g.cut H0.length, ⟨hg.fz, fun b y h => ?_, hg.ks, hg.cp, hg.mr⟩, S.cut hb, ha.cut hR⟩
  show (if b < H0.length then g.ph b else none) = some y
  rw [if_pos (hd b y h)]; exact hg.ph b y h

theorem Vs.dropTo {H0 H1 X : Hp} {a : AV} (hl : H0.length ≤ H1.length) (hb1 : (∀ (b : Nat) (ob : AObj), H0[b]? = some ob → ob ≠ .dead → BelO H0.length ob) → ∀ (b : Nat) (ob : AObj), H1[b]? = some ob → ob ≠ .dead → BelO H1.length ob)
    (ha : Bel H1.length a) : Vs H0 a (H1 ++ X) a H1 := by
  intro base w0 g0 g w x hd hb hg S hR
  refine ⟨g.cut H1.length, ⟨hg.fz, fun b y h => ?_, hg.ks, hg.cp, hg.mr⟩, S.cut (hb1 hb), ha.cut hR⟩
  show (if b < H1.length then g.ph b else none) = some y
  rw [if_pos (Nat.lt_of_lt_of_le (hd b y h) hl)]; exact hg.ph b y h

end Go.Proofs.Ytphfdbmbdaninaa.Ab
