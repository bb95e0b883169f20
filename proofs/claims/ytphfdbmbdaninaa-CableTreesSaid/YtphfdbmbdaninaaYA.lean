/- The abstract values of this seat's proofs, what relates them to the machine's values, and what relates an abstract heap to a world. How a world may turn while an abstract heap goes on telling it. The operations on abstract values, each with the reason why the machine does the same: those that make no call. Stores, addresses of fields and elements, composite values. Composite values, made slices, slices of slices, appends. Slices: literals, made ones, slices of slices, appends. -/
import Derived.RangeFuncCalls
import Derived.RangeFuncLeaves
import Derived.Below
import Derived.WalkKit
import Derived.MapKept
namespace Go.Proofs.Ytphfdbmbdaninaa.Ab
open Go Go.RowKit

/-- abstract values -/
inductive AV where
  | val (v : Value)
  | rptr (cs : List AV) (off : Nat)
  | mptr (b i off : Nat)
  | rsl (es : List (List AV)) (exact : Bool)
  | msl (b off len : Nat)
  | fn (f : Fn) (cap : List AV)
  | mth (f : FuncId) (pre : List AV)
  | mp (b : Nat)
  | agg (cs : List AV)
  | tup (cs : List AV)

instance : Inhabited AV := ⟨.val undef⟩

/-- what is known of memory that never turns any more (fz), and where own blocks lie (ph), how many cells an element has (ks), for how many elements there is room (cp) -/
structure Gh where
  fz : Nat → Nat → Option Value
  ph : Nat → Option Nat
  ks : Nat → Nat
  cp : Nat → Nat
  mr : Nat → Prop

inductive R (g : Gh) : AV → Value → Prop
  | val (v : Value) : R g (.val v) v
  | rptr {cs : List AV} {off b o : Nat} (vs : Nat → Value) (hf : ∀ i, i < cs.length → g.fz b (o + i) = some (vs i))
      (hr : ∀ (i : Nat) (c : AV), cs[i]? = some c → R g c (vs i)) : R g (.rptr cs off) (.pointer (some ⟨b, o + off, none⟩))
  | mptr {b i off x : Nat} (h : g.ph b = some x) : R g (.mptr b i off) (.pointer (some ⟨x, i * g.ks b + off, none⟩))
  | rsl {es : List (List AV)} {ex : Bool} {b o k n cap : Nat} (vs : Nat → Nat → Value) (hn : n = es.length) (hl : n ≤ cap) (hc : ex = true → cap = n) (hm : cap ≤ maxLen)
      (hk : ∀ (i : Nat) (e : List AV), es[i]? = some e → e.length = k) (hf : ∀ i j, i < es.length → j < k → g.fz b (o + i * k + j) = some (vs i j))
      (hr : ∀ (i : Nat) (e : List AV) (j : Nat) (c : AV), es[i]? = some e → e[j]? = some c → R g c (vs i j)) : R g (.rsl es ex) (.slice (some ⟨b, o, none⟩) n cap)
  | rnil {ex : Bool} (a : Option Addr) : R g (.rsl [] ex) (.slice a 0 0)
  | msl {b off len x cap : Nat} (h : g.ph b = some x) (hl : len ≤ cap) (hc : off + cap = g.cp b) (hm : cap ≤ maxLen) :
      R g (.msl b off len) (.slice (some ⟨x, off * g.ks b, none⟩) len cap)
  | fn {f : Fn} {cap : List AV} {vs : Array Value} (hy : ∀ l, f ≠ .yield l) (hl : cap.length = vs.size) (hr : ∀ (i : Nat) (c : AV) (v : Value), cap[i]? = some c → vs[i]? = some v → R g c v) : R g (.fn f cap) (.func f #[] vs)
  | mth {f : FuncId} {pre : List AV} {vs : Array Value} (hl : pre.length = vs.size) (hr : ∀ (i : Nat) (c : AV) (v : Value), pre[i]? = some c → vs[i]? = some v → R g c v) : R g (.mth f pre) (.func (.func f) vs #[])
  | yld {b l : Nat} (h : g.ph b = some l) : R g (.fn (.yield b) []) (.func (.yield l) #[] #[])
  | mp {b x : Nat} (h : g.ph b = some x) : R g (.mp b) (.map (some x))
  | agg {cs : List AV} {vs : Array Value} (hl : cs.length = vs.size) (hr : ∀ (i : Nat) (c : AV) (v : Value), cs[i]? = some c → vs[i]? = some v → R g c v) : R g (.agg cs) (.agg vs)
  | tup {cs : List AV} {vs : Array Value} (hl : cs.length = vs.size) (hr : ∀ (i : Nat) (c : AV) (v : Value), cs[i]? = some c → vs[i]? = some v → R g c v) : R g (.tup cs) (.tuple vs)

/-- g' knows all that g knows -/
structure Gh.le (g g' : Gh) : Prop where
  fz : ∀ b o v, g.fz b o = some v → g'.fz b o = some v
  ph : ∀ b x, g.ph b = some x → g'.ph b = some x
  ks : ∀ b x, g.ph b = some x → g'.ks b = g.ks b
  cp : ∀ b x, g.ph b = some x → g'.cp b = g.cp b
  mr : ∀ r, g.mr r → g'.mr r

theorem Gh.le.refl (g : Gh) : g.le g := ⟨fun _ _ _ h => h, fun _ _ h => h, fun _ _ _ => rfl, fun _ _ _ => rfl, fun _ h => h⟩
theorem Gh.le.trans {a b c : Gh} (h : a.le b) (k : b.le c) : a.le c :=
  ⟨fun x o v hx => k.fz x o v (h.fz x o v hx), fun x y hx => k.ph x y (h.ph x y hx), fun x y hx => (k.ks x y (h.ph x y hx)).trans (h.ks x y hx),
   fun x y hx => (k.cp x y (h.ph x y hx)).trans (h.cp x y hx), fun r hr => k.mr r (h.mr r hr)⟩

theorem R.mono4 {g g' : Gh} (hfz : ∀ b o v, g.fz b o = some v → g'.fz b o = some v) (hph : ∀ b x, g.ph b = some x → g'.ph b = some x) (hks : ∀ b x, g.ph b = some x → g'.ks b = g.ks b)
    (hcp : ∀ b x, g.ph b = some x → g'.cp b = g.cp b) {a : AV} {v : Value} (h : R g a v) : R g' a v := by
  induction h with
  | val v => exact .val v
  | rptr vs hf _ ih => exact .rptr vs (fun i hi => hfz _ _ _ (hf i hi)) ih
  | mptr h => rw [← hks _ _ h]; exact .mptr (hph _ _ h)
  | rsl vs hn hl hc hm hk hf _ ih => exact .rsl vs hn hl hc hm hk (fun i j hi hj => hfz _ _ _ (hf i j hi hj)) ih
  | rnil a => exact .rnil a
  | msl h hl hc hm => rw [← hks _ _ h]; exact .msl (hph _ _ h) hl (by rw [hcp _ _ h]; exact hc) hm
  | fn hy hl _ ih => exact .fn hy hl ih
  | mth hl _ ih => exact .mth hl ih
  | yld h => exact .yld (hph _ _ h)
  | mp h => exact .mp (hph _ _ h)
  | agg hl _ ih => exact .agg hl ih
  | tup hl _ ih => exact .tup hl ih

theorem R.mono {g g' : Gh} (hg : g.le g') {a : AV} {v : Value} (h : R g a v) : R g' a v := h.mono4 hg.fz hg.ph hg.ks hg.cp

/-- abstract objects -/
inductive AObj where
  | cells (es : List (List AV)) (t : TypeId)
  | loop (st : LoopState) (pend : Option Code) (f : FuncId) (T : Nat → AV) (n : Nat) (params : Array Tmp) (assign body : Code) (defers : Nat)
  | amap (es : List (AV × AV))
  | dead

abbrev Env := Nat → AV

structure TRel (g : Gh) (n : Nat) (T : Env) (tmps : Array Value) : Prop where
  size : tmps.size = n
  slot : ∀ t, R g (T t) (tmps.getD t undef)

theorem TRel.mono {g g' : Gh} {n : Nat} {T : Env} {tmps : Array Value} (h : TRel g n T tmps) (hg : g.le g') : TRel g' n T tmps :=
  ⟨h.size, fun t => (h.slot t).mono hg⟩

inductive ORel (g : Gh) (k cp : Nat) : AObj → Obj → Prop
  | cells {es : List (List AV)} {t : TypeId} {cur : Array Value} (hs : cur.size = cp * k) (hl : es.length ≤ cp) (hk : ∀ (i : Nat) (e : List AV), es[i]? = some e → e.length = k)
      (hr : ∀ (i : Nat) (e : List AV) (j : Nat) (c : AV), es[i]? = some e → e[j]? = some c → ∃ v, cur[i * k + j]? = some v ∧ R g c v) : ORel g k cp (.cells es t) (.cells cur t (0, 0))
  | loop {st : LoopState} {pend : Option Code} {f f' : FuncId} {T : Env} {n : Nat} {params : Array Tmp} {assign body : Code} {defers defers' : Nat} {tmps : Array Value} (h : TRel g n T tmps) :
      ORel g k cp (.loop st pend f T n params assign body defers) (.loop { state := st, pending := pend, fn := f', tmps, params, assign, body, defers := defers' })
  | amap {es : List (AV × AV)} {ms : Array MapEntry} {clock : Nat} (hl : es.length = ms.size) (hr : ∀ (i : Nat) (e : AV × AV) (m : MapEntry), es[i]? = some e → ms[i]? = some m → R g e.1 m.key ∧ R g e.2 m.val) (hs : Go.MapKept.Stamped ms clock) :
      ORel g k cp (.amap es) (.map ms clock)
  | dead (o : Obj) : ORel g k cp .dead o

theorem ORel.mono {g g' : Gh} (hg : g.le g') {k cp : Nat} {a : AObj} {o : Obj} (h : ORel g k cp a o) : ORel g' k cp a o := by
  cases h with
  | cells hs hl hk hr => exact .cells hs hl hk (fun i e j c he hc => let ⟨v, h1, h2⟩ := hr i e j c he hc; ⟨v, h1, h2.mono hg⟩)
  | loop h => exact .loop (h.mono hg)
  | amap hl hr hs => exact .amap hl (fun i e m he hm => ⟨(hr i e m he hm).1.mono hg, (hr i e m he hm).2.mono hg⟩) hs
  | dead => exact .dead _

/-- the same but for the marks -/
structure Gh.same (g g' : Gh) : Prop where
  fz : g'.fz = g.fz
  ph : g'.ph = g.ph
  ks : g'.ks = g.ks
  cp : g'.cp = g.cp

theorem R.same {g g' : Gh} (h : g.same g') {a : AV} {v : Value} (hr : R g a v) : R g' a v :=
  hr.mono4 (fun _ _ _ k => by rw [h.fz]; exact k) (fun _ _ k => by rw [h.ph]; exact k) (fun _ _ _ => by rw [h.ks]) (fun _ _ _ => by rw [h.cp])

theorem TRel.same {g g' : Gh} (h : g.same g') {n : Nat} {T : Env} {tmps : Array Value} (k : TRel g n T tmps) : TRel g' n T tmps := ⟨k.size, fun t => (k.slot t).same h⟩

theorem ORel.same {g g' : Gh} (h : g.same g') {k cp : Nat} {a : AObj} {o : Obj} (hr : ORel g k cp a o) : ORel g' k cp a o := by
  cases hr with
  | cells hs hl hk hr => exact .cells hs hl hk (fun i e j c he hc => let ⟨v, h1, h2⟩ := hr i e j c he hc; ⟨v, h1, h2.same h⟩)
  | loop h' => exact .loop (h'.same h)
  | amap hl hr hs => exact .amap hl (fun i e m he hm => ⟨(hr i e m he hm).1.same h, (hr i e m he hm).2.same h⟩) hs
  | dead => exact .dead _

abbrev Hp := List AObj

/-- a world as an abstract heap tells it -/
structure Sim (base : Nat) (w0 : World) (g : Gh) (H : Hp) (w : World) : Prop where
  below : Below base w0 w
  low : base ≤ w.heap.size
  fz : ∀ b o v, g.fz b o = some v → w.cell? ⟨b, o, none⟩ = some v
  dom : ∀ b x, g.ph b = some x → b < H.length
  pos : ∀ b x, g.ph b = some x → base ≤ x ∧ x < w.heap.size
  sep : ∀ b x ob, H[b]? = some ob → ob ≠ .dead → g.ph b = some x → (∀ o, g.fz x o = none) ∧ ¬ g.mr x
  inj : ∀ b c x ob oc, H[b]? = some ob → ob ≠ .dead → H[c]? = some oc → oc ≠ .dead → g.ph b = some x → g.ph c = some x → b = c
  obj : ∀ b ob, H[b]? = some ob → ob ≠ .dead → ∃ x o, g.ph b = some x ∧ w.heap[x]? = some o ∧ ORel g (g.ks b) (g.cp b) ob o
  marks : ∀ r, g.mr r → base ≤ r ∧ r < w.heap.size ∧ w.heap[r]? = some (.deferred (some []))

theorem dead_ne (ob : AObj) : ob = .dead ∨ ob ≠ .dead := by
  cases ob <;> simp

end Go.Proofs.Ytphfdbmbdaninaa.Ab
namespace Go.Proofs.Ytphfdbmbdaninaa.Ab
open Go Go.RowKit

variable {base : Nat} {w0 w w' : World} {g : Gh} {H : Hp}

theorem Sim.size0 (S : Sim base w0 g H w) : w0.heap.size ≤ w.heap.size := S.below.size

theorem Sim.fzlt (S : Sim base w0 g H w) {b o : Nat} {v : Value} (h : g.fz b o = some v) : b < w.heap.size :=
  World.block_lt_of_cell? w ⟨b, o, none⟩ (S.fz b o v h)

theorem grownBy_below {row : Option Nat} (S : Sim base w0 g H w) (h : w.grownBy w' row) (hr : ∀ x, row = some x → base ≤ x) : Below base w0 w' :=
  S.below.trans ⟨h.os, h.tape, h.output, h.size, fun k hk => h.block k (Nat.lt_of_lt_of_le hk S.low) (fun e => by have := hr k e.symm; omega)⟩

theorem Sim.grow (S : Sim base w0 g H w) (h : w.grownBy w' none) : Sim base w0 g H w' where
  below := grownBy_below S h (fun x e => by cases e)
  low := Nat.le_trans S.low h.size
  fz b o v hv := (World.cell?_of_block (a := ⟨b, o, none⟩) (h.block b (S.fzlt hv) (by simp))).trans (S.fz b o v hv)
  dom := S.dom
  pos b x hx := ⟨(S.pos b x hx).1, Nat.lt_of_lt_of_le (S.pos b x hx).2 h.size⟩
  sep := S.sep
  inj := S.inj
  obj b ob hb hn := by
    obtain ⟨x, o, h1, h2, h3⟩ := S.obj b ob hb hn
    exact ⟨x, o, h1, (h.block x (S.pos b x h1).2 (by simp)).trans h2, h3⟩
  marks r hr := by
    obtain ⟨h1, h2, h3⟩ := S.marks r hr
    exact ⟨h1, Nat.lt_of_lt_of_le h2 h.size, (h.block r h2 (by simp)).trans h3⟩

theorem Sim.drew (S : Sim base w0 g H w) : Sim base w0 g H w.drew := S.grow ⟨rfl, rfl, rfl, Nat.le_refl _, fun _ _ _ => rfl⟩

theorem Sim.dead (S : Sim base w0 g H w) (b : Nat) : Sim base w0 g (H.set b .dead) w where
  below := S.below
  low := S.low
  fz := S.fz
  dom c x hx := by simpa using S.dom c x hx
  pos := S.pos
  sep c x ob hc hn := by
    rw [List.getElem?_set] at hc
    split at hc
    · split at hc
      · cases hc; exact absurd rfl hn
      · cases hc
    · exact S.sep c x ob hc hn
  inj c d x ob oc hc hn hd hn' := by
    rw [List.getElem?_set] at hc hd
    split at hc
    · split at hc
      · cases hc; exact absurd rfl hn
      · cases hc
    · split at hd
      · split at hd
        · cases hd; exact absurd rfl hn'
        · cases hd
      · exact S.inj c d x ob oc hc hn hd hn'
  obj c ob hc hn := by
    rw [List.getElem?_set] at hc
    split at hc
    · split at hc
      · cases hc; exact absurd rfl hn
      · cases hc
    · exact S.obj c ob hc hn
  marks := S.marks

/-- one own block turns -/
theorem Sim.turn (S : Sim base w0 g H w) {b x : Nat} {ob ob' : AObj} {o' : Obj} (hb : H[b]? = some ob) (hn : ob ≠ .dead) (hx : g.ph b = some x)
    (h : w.grownBy w' (some x)) (ho : w'.heap[x]? = some o') (hr : ORel g (g.ks b) (g.cp b) ob' o') : Sim base w0 g (H.set b ob') w' where
  below := grownBy_below S h (fun y e => by cases e; exact (S.pos b x hx).1)
  low := Nat.le_trans S.low h.size
  fz c o v hv := by
    refine (World.cell?_of_block (a := ⟨c, o, none⟩) (h.block c (S.fzlt hv) (fun e => ?_))).trans (S.fz c o v hv)
    cases e
    have := (S.sep b x ob hb hn hx).1 o
    rw [hv] at this
    cases this
  dom c y hy := by simpa using S.dom c y hy
  pos c y hy := ⟨(S.pos c y hy).1, Nat.lt_of_lt_of_le (S.pos c y hy).2 h.size⟩
  sep c y oc hc hn' hy := by
    rw [List.getElem?_set] at hc
    split at hc
    · rename_i e; subst e; exact S.sep b y ob hb hn hy
    · exact S.sep c y oc hc hn' hy
  inj c d y oc od hc hnc hd hnd hyc hyd := by
    rw [List.getElem?_set] at hc hd
    split at hc
    · rename_i e; subst e
      split at hd
      · assumption
      · exact S.inj b d y ob od hb hn hd hnd hyc hyd
    · split at hd
      · rename_i e; subst e; exact S.inj c b y oc ob hc hnc hb hn hyc hyd
      · exact S.inj c d y oc od hc hnc hd hnd hyc hyd
  obj c oc hc hnc := by
    rw [List.getElem?_set] at hc
    split at hc
    · rename_i e; subst e
      split at hc
      · cases hc; exact ⟨x, o', hx, ho, hr⟩
      · cases hc
    · rename_i hne
      obtain ⟨y, oy, h1, h2, h3⟩ := S.obj c oc hc hnc
      refine ⟨y, oy, h1, (h.block y (S.pos c y h1).2 (fun e => ?_)).trans h2, h3⟩
      cases e
      exact hne (S.inj b c x ob oc hb hn hc hnc hx h1)
  marks r hr' := by
    obtain ⟨h1, h2, h3⟩ := S.marks r hr'
    refine ⟨h1, Nat.lt_of_lt_of_le h2 h.size, (h.block r h2 (fun e => ?_)).trans h3⟩
    cases e
    exact (S.sep b x ob hb hn hx).2 hr'

/-- a further own block -/
def Gh.phAdd (g : Gh) (b x k c : Nat) : Gh :=
  { g with ph := fun i => if i = b then some x else g.ph i, ks := fun i => if i = b then k else g.ks i, cp := fun i => if i = b then c else g.cp i }

theorem Gh.phAdd_le {b x k c : Nat} (h : g.ph b = none) : g.le (g.phAdd b x k c) where
  fz _ _ _ h := h
  ph i y hy := by
    show (if i = b then some x else g.ph i) = some y
    rw [if_neg (fun e => by subst e; rw [h] at hy; cases hy)]; exact hy
  ks i y hy := by
    show (if i = b then k else g.ks i) = g.ks i
    rw [if_neg (fun e => by subst e; rw [h] at hy; cases hy)]
  cp i y hy := by
    show (if i = b then c else g.cp i) = g.cp i
    rw [if_neg (fun e => by subst e; rw [h] at hy; cases hy)]
  mr _ h := h

theorem Sim.fresh (S : Sim base w0 g H w) : g.ph H.length = none := by
  cases h : g.ph H.length with
  | none => rfl
  | some x => exact absurd (S.dom _ _ h) (Nat.lt_irrefl _)

/-- the new block x is told by the abstract number H.length; nothing alive lies in x -/
theorem Sim.push (S : Sim base w0 g H w) {x k c : Nat} {ob : AObj} {o : Obj} (hx : base ≤ x) (hx' : x < w.heap.size) (ho : w.heap[x]? = some o)
    (hfz : ∀ o, g.fz x o = none) (hmk : ¬ g.mr x) (hal : ∀ b ob, H[b]? = some ob → ob ≠ .dead → g.ph b ≠ some x)
    (hr : ORel (g.phAdd H.length x k c) k c ob o) : Sim base w0 (g.phAdd H.length x k c) (H ++ [ob]) w := by
  have hle : g.le (g.phAdd H.length x k c) := Gh.phAdd_le S.fresh
  have hph : ∀ b y, (g.phAdd H.length x k c).ph b = some y → (b = H.length ∧ y = x) ∨ (b ≠ H.length ∧ g.ph b = some y) := by
    intro b y hy
    change (if b = H.length then some x else g.ph b) = some y at hy
    split at hy
    · cases hy; exact .inl ⟨by assumption, rfl⟩
    · exact .inr ⟨by assumption, hy⟩
  have hold : ∀ b ob', (H ++ [ob])[b]? = some ob' → b ≠ H.length → H[b]? = some ob' := by
    intro b ob' hb hne
    have hlt : b < (H ++ [ob]).length := (List.getElem?_eq_some_iff.1 hb).1
    rw [List.getElem?_append_left (by simp at hlt; omega)] at hb
    exact hb
  exact
  { below := S.below
    low := S.low
    fz := S.fz
    dom := fun b y hy => by
      rcases hph b y hy with ⟨rfl, _⟩ | ⟨_, h⟩
      · simp
      · have := S.dom b y h; simp; omega
    pos := fun b y hy => by
      rcases hph b y hy with ⟨_, rfl⟩ | ⟨_, h⟩
      · exact ⟨hx, hx'⟩
      · exact S.pos b y h
    sep := fun b y ob' hb hn hy => by
      rcases hph b y hy with ⟨_, rfl⟩ | ⟨hne, h⟩
      · exact ⟨hfz, hmk⟩
      · exact S.sep b y ob' (hold b ob' hb hne) hn h
    inj := fun b d y ob1 ob2 hb hn hd hn' hy hy' => by
      rcases hph b y hy with ⟨rfl, rfl⟩ | ⟨hne, h⟩
      · rcases hph d y hy' with ⟨rfl, _⟩ | ⟨hne', h'⟩
        · rfl
        · exact absurd h' (hal d ob2 (hold d ob2 hd hne') hn')
      · rcases hph d y hy' with ⟨rfl, rfl⟩ | ⟨hne', h'⟩
        · exact absurd h (hal b ob1 (hold b ob1 hb hne) hn)
        · exact S.inj b d y ob1 ob2 (hold b ob1 hb hne) hn (hold d ob2 hd hne') hn' h h'
    obj := fun b ob' hb hn => by
      by_cases hne : b = H.length
      · subst hne
        simp at hb
        subst hb
        exact ⟨x, o, by simp [Gh.phAdd], ho, by simpa [Gh.phAdd] using hr⟩
      · obtain ⟨y, oy, h1, h2, h3⟩ := S.obj b ob' (hold b ob' hb hne) hn
        refine ⟨y, oy, hle.ph _ _ h1, h2, ?_⟩
        rw [hle.ks _ _ h1, hle.cp _ _ h1]
        exact h3.mono hle
    marks := S.marks }

/-- a new block that is told as an own one -/
theorem Sim.alloc (S : Sim base w0 g H w) {k c : Nat} {ob : AObj} {o : Obj} (hg : w.grownBy w' none) (hx : w'.heap[w.heap.size]? = some o)
    (hr : ORel (g.phAdd H.length w.heap.size k c) k c ob o) : Sim base w0 (g.phAdd H.length w.heap.size k c) (H ++ [ob]) w' := by
  have S' := S.grow hg
  refine S'.push S.low (Array.getElem?_eq_some_iff.1 hx).1 hx (fun o => ?_) (fun h => ?_) (fun b ob _ _ h => ?_) hr
  · cases h : g.fz w.heap.size o with
    | none => rfl
    | some v => exact absurd (S.fzlt h) (Nat.lt_irrefl _)
  · exact absurd (S.marks _ h).2.1 (Nat.lt_irrefl _)
  · exact absurd (S.pos b _ h).2 (Nat.lt_irrefl _)

/-- a new row that is never written again -/
def Gh.fzAdd (g : Gh) (x : Nat) (cs : Array Value) : Gh := { g with fz := fun b o => if b = x then cs[o]? else g.fz b o }

theorem Sim.fzAdd_le (S : Sim base w0 g H w) (cs : Array Value) : g.le (g.fzAdd w.heap.size cs) where
  fz b o v h := by
    show (if b = w.heap.size then cs[o]? else g.fz b o) = some v
    rw [if_neg (fun e => by subst e; exact absurd (S.fzlt h) (Nat.lt_irrefl _))]; exact h
  ph _ _ h := h
  ks _ _ _ := rfl
  cp _ _ _ := rfl
  mr _ h := h

theorem Sim.allocFz (S : Sim base w0 g H w) (cs : Array Value) (t : TypeId) : Sim base w0 (g.fzAdd w.heap.size cs) H (w.alloc (.cells cs t)) := by
  have hg : w.grownBy (w.alloc (.cells cs t)) none := World.grownBy_alloc w _ none
  have S' := S.grow hg
  have hle := S.fzAdd_le cs
  exact
  { below := S'.below
    low := S'.low
    fz := fun b o v h => by
      change (if b = w.heap.size then cs[o]? else g.fz b o) = some v at h
      split at h
      · rename_i e; subst e; rw [World.cell?_alloc_new]; exact h
      · exact S'.fz b o v h
    dom := S'.dom
    pos := S'.pos
    sep := fun b x ob hb hn hx => by
      refine ⟨fun o => ?_, (S'.sep b x ob hb hn hx).2⟩
      show (if x = w.heap.size then cs[o]? else g.fz x o) = none
      rw [if_neg (fun e => by subst e; exact absurd (S.pos b _ hx).2 (Nat.lt_irrefl _))]
      exact (S'.sep b x ob hb hn hx).1 o
    inj := S'.inj
    obj := fun b ob hb hn => let ⟨x, o, h1, h2, h3⟩ := S'.obj b ob hb hn; ⟨x, o, h1, h2, h3.mono hle⟩
    marks := S'.marks }

/-- an own row of cells becomes one that never turns again: its abstract block dies -/
def Gh.fzOwn (g : Gh) (x n : Nat) (cs : Array Value) : Gh := { g with fz := fun b o => if b = x then (if o < n then cs[o]? else none) else g.fz b o }

theorem Sim.freeze_le (S : Sim base w0 g H w) {b x : Nat} {ob : AObj} (hb : H[b]? = some ob) (hn : ob ≠ .dead) (hx : g.ph b = some x) (n : Nat) (cs : Array Value) : g.le (g.fzOwn x n cs) where
  fz c o v h := by
    show (if c = x then _ else g.fz c o) = some v
    rw [if_neg (fun e => by subst e; rw [(S.sep b c ob hb hn hx).1 o] at h; cases h)]; exact h
  ph _ _ h := h
  ks _ _ _ := rfl
  cp _ _ _ := rfl
  mr _ h := h

theorem Sim.freeze (S : Sim base w0 g H w) {b x n : Nat} {ob : AObj} {cur : Array Value} {t : TypeId} (hb : H[b]? = some ob) (hn : ob ≠ .dead) (hx : g.ph b = some x)
    (ho : w.heap[x]? = some (.cells cur t (0, 0))) : Sim base w0 (g.fzOwn x n cur) (H.set b .dead) w := by
  have hle := S.freeze_le hb hn hx n cur
  have S' := S.dead b
  have hout : ∀ c oc, (H.set b .dead)[c]? = some oc → oc ≠ .dead → H[c]? = some oc ∧ c ≠ b := by
    intro c oc hc hnc
    rw [List.getElem?_set] at hc
    split at hc
    · split at hc
      · cases hc; exact absurd rfl hnc
      · cases hc
    · exact ⟨hc, fun e => by subst e; contradiction⟩
  exact
  { below := S'.below
    low := S'.low
    fz := fun c o v h => by
      change (if c = x then (if o < n then cur[o]? else none) else g.fz c o) = some v at h
      split at h
      · rename_i e; subst e
        split at h
        · simp [World.cell?, ho, h]
        · cases h
      · exact S'.fz c o v h
    dom := S'.dom
    pos := S'.pos
    sep := fun c y oc hc hnc hy => by
      obtain ⟨hc', hne⟩ := hout c oc hc hnc
      refine ⟨fun o => ?_, (S'.sep c y oc hc hnc hy).2⟩
      show (if y = x then _ else g.fz y o) = none
      rw [if_neg (fun e => by subst e; exact hne (S.inj c b y oc ob hc' hnc hb hn hy hx))]
      exact (S'.sep c y oc hc hnc hy).1 o
    inj := S'.inj
    obj := fun c oc hc hnc => let ⟨y, o, h1, h2, h3⟩ := S'.obj c oc hc hnc; ⟨y, o, h1, h2, h3.mono hle⟩
    marks := S'.marks }

/-- a block for a loop's deferred calls -/
def Gh.mkAdd (g : Gh) (x : Nat) : Gh := { g with mr := fun r => r = x ∨ g.mr r }

theorem Sim.mkAdd_le (x : Nat) : g.le (g.mkAdd x) := ⟨fun _ _ _ h => h, fun _ _ h => h, fun _ _ _ => rfl, fun _ _ _ => rfl, fun _ h => .inr h⟩

theorem Sim.allocMk (S : Sim base w0 g H w) : Sim base w0 (g.mkAdd w.heap.size) H (w.alloc (.deferred (some []))) := by
  have S' := S.grow (World.grownBy_alloc w (.deferred (some [])) none)
  have hle : g.le (g.mkAdd w.heap.size) := Sim.mkAdd_le _
  exact
  { below := S'.below
    low := S'.low
    fz := S'.fz
    dom := S'.dom
    pos := S'.pos
    sep := fun b x ob hb hn hx => ⟨(S'.sep b x ob hb hn hx).1, fun h => by
      rcases h with h | h
      · subst h; exact absurd (S.pos b _ hx).2 (Nat.lt_irrefl _)
      · exact (S'.sep b x ob hb hn hx).2 h⟩
    inj := S'.inj
    obj := fun c oc hc hnc => let ⟨y, o, h1, h2, h3⟩ := S'.obj c oc hc hnc; ⟨y, o, h1, h2, h3.mono hle⟩
    marks := fun r hr => by
      rcases hr with hr | hr
      · subst hr; exact ⟨S.low, by simp, heap_alloc_new w _⟩
      · exact S'.marks r hr }

end Go.Proofs.Ytphfdbmbdaninaa.Ab
namespace Go.Proofs.Ytphfdbmbdaninaa.Ab
open Go Go.RowKit

variable {base : Nat} {w0 w w' : World} {g : Gh} {H : Hp} {P : Program}

theorem add_none (b o n : Nat) : (⟨b, o, none⟩ : Addr).add n = ⟨b, o + n, none⟩ := by
  unfold Addr.add; split <;> simp_all

/-- the tree of an operation that asks the world nothing -/
def pureRun {α : Type} (P : Program) : Sem α → Option α
  | .pure a => some a
  | .program k => pureRun P (k P)
  | .mark _ k => pureRun P k
  | _ => none

theorem pureRun_run {α : Type} {s : Sem α} {a : α} (h : pureRun P s = some a) (w : World) : s.run P w = .ok a w := by
  induction s with
  | pure x => simp only [pureRun, Option.some.injEq] at h; subst h; rfl
  | program k ih => exact ih P h
  | mark m k ih => exact ih h
  | _ => simp [pureRun] at h

theorem pureRun_bind {α β : Type} (s : Sem α) (f : α → Sem β) : pureRun P (s >>= f) = (pureRun P s).bind fun a => pureRun P (f a) := by
  show pureRun P (s.bind f) = _
  induction s with
  | pure x => rfl
  | program k ih => exact ih P
  | mark m k ih => exact ih
  | _ => rfl

mutual
/-- a value without addresses of ours -/
def AV.flat : AV → Option Value
  | .val v => some v
  | .agg cs => (AV.flats cs).map fun vs => .agg vs.toArray
  | .tup cs => (AV.flats cs).map fun vs => .tuple vs.toArray
  | _ => none
def AV.flats : List AV → Option (List Value)
  | [] => some []
  | c :: cs => (AV.flat c).bind fun v => (AV.flats cs).map fun vs => v :: vs
end

theorem R.flat {g : Gh} {a : AV} {u : Value} (h : R g a u) : ∀ v, a.flat = some v → u = v := by
  induction h with
  | val v => intro v' h; simpa [AV.flat] using h
  | agg hl hr ih =>
    rename_i cs us
    intro v h
    simp only [AV.flat, Option.map_eq_some_iff] at h
    obtain ⟨vs, hvs, rfl⟩ := h
    have : us = vs.toArray := by
      apply flats_of' cs vs us hvs hl ih
    rw [this]
  | tup hl hr ih =>
    rename_i cs us
    intro v h
    simp only [AV.flat, Option.map_eq_some_iff] at h
    obtain ⟨vs, hvs, rfl⟩ := h
    have : us = vs.toArray := by
      apply flats_of' cs vs us hvs hl ih
    rw [this]
  | _ => intro v h; simp [AV.flat] at h
where
  flats_of' : ∀ (cs : List AV) (vs : List Value) (us : Array Value), AV.flats cs = some vs → cs.length = us.size →
    (∀ (i : Nat) (c : AV) (v : Value), cs[i]? = some c → us[i]? = some v → ∀ v', c.flat = some v' → v = v') → us = vs.toArray
  | [], vs, us, h, hl, _ => by
    simp only [AV.flats, Option.some.injEq] at h
    subst h
    apply Array.ext'
    have : us.size = 0 := by simpa using hl.symm
    exact List.eq_nil_of_length_eq_zero (by simpa using this)
  | c :: cs, vs, us, h, hl, hr => by
    simp only [AV.flats, Option.bind_eq_some_iff, Option.map_eq_some_iff] at h
    obtain ⟨v, hv, vs', hvs, rfl⟩ := h
    rcases us with ⟨us⟩
    cases us with
    | nil => simp at hl
    | cons u us =>
      have h0 := hr 0 c u (by simp) (by simp) v hv
      have := flats_of' cs vs' us.toArray hvs (by simpa using hl) (fun i d v hd hv => hr (i + 1) d v (by simpa using hd) (by simpa using hv))
      subst h0
      have e : us = vs' := by simpa using congrArg Array.toList this
      rw [e]

/-- the cells of a value -/
def AV.cells : AV → List AV
  | .agg cs => cs
  | .val v => v.cells.toList.map .val
  | a => [a]

structure RCells (g : Gh) (cs : List AV) (vs : Array Value) : Prop where
  size : cs.length = vs.size
  cell : ∀ (i : Nat) (c : AV) (v : Value), cs[i]? = some c → vs[i]? = some v → R g c v

theorem RCells.get {cs : List AV} {vs : Array Value} (h : RCells g cs vs) {i : Nat} {c : AV} (hc : cs[i]? = some c) : ∃ v, vs[i]? = some v ∧ R g c v := by
  have hi : i < vs.size := by rw [← h.size]; exact (List.getElem?_eq_some_iff.1 hc).1
  exact ⟨vs[i], by simp [hi], h.cell i c _ hc (by simp [hi])⟩

theorem RCells.mono {g' : Gh} (hg : g.le g') {cs : List AV} {vs : Array Value} (h : RCells g cs vs) : RCells g' cs vs := ⟨h.size, fun i c v hc hv => (h.cell i c v hc hv).mono hg⟩

theorem RCells.one {a : AV} {v : Value} (h : R g a v) : RCells g [a] #[v] :=
  ⟨rfl, fun i c u hc hu => by
    cases i with
    | zero => simp at hc hu; subst hc; subst hu; exact h
    | succ i => simp at hc⟩

theorem R.cells {a : AV} {v : Value} (h : R g a v) : RCells g a.cells v.cells := by
  cases h with
  | val v =>
    refine ⟨by simp [AV.cells], fun i c u hc hu => ?_⟩
    simp only [AV.cells, List.getElem?_map, Option.map_eq_some_iff, Array.getElem?_toList] at hc
    obtain ⟨x, hx, rfl⟩ := hc
    rw [hx] at hu
    cases hu
    exact .val _
  | agg hl hr => exact ⟨hl, hr⟩
  | rptr vs hf hr => exact RCells.one (.rptr vs hf hr)
  | mptr h => exact RCells.one (.mptr h)
  | rsl vs hn hl hc hm hk hf hr => exact RCells.one (.rsl vs hn hl hc hm hk hf hr)
  | rnil a => exact RCells.one (.rnil a)
  | msl h hl hc hm => exact RCells.one (.msl h hl hc hm)
  | fn hy hl hr => exact RCells.one (.fn hy hl hr)
  | mth hl hr => exact RCells.one (.mth hl hr)
  | yld h => exact RCells.one (.yld h)
  | mp h => exact RCells.one (.mp h)
  | tup hl hr => exact RCells.one (.tup hl hr)

/-! ### a new block of cells -/

theorem ORel.one {g : Gh} {cs : List AV} {vs : Array Value} {t : TypeId} (h : RCells g cs vs) : ORel g cs.length 1 (.cells [cs] t) (.cells vs t (0, 0)) := by
  refine .cells (by rw [h.size]; omega) (by simp) (fun i e he => ?_) (fun i e j c he hc => ?_)
  · cases i with
    | zero => simp at he; subst he; rfl
    | succ i => simp at he
  · cases i with
    | zero =>
      simp at he; subst he
      simpa using h.get hc
    | succ i => simp at he

/-- a boxed value: in a row that never turns -/
theorem box_fz (S : Sim base w0 g H w) {cs : List AV} {vs : Array Value} (h : RCells g cs vs) (t : TypeId) :
    ∃ g', g.le g' ∧ Sim base w0 g' H (w.alloc (.cells vs t)) ∧ R g' (.rptr cs 0) (.pointer (some ⟨w.heap.size, 0, none⟩)) := by
  refine ⟨_, S.fzAdd_le vs, S.allocFz vs t, ?_⟩
  have hle := S.fzAdd_le vs
  refine R.rptr (o := 0) (fun i => vs[i]?.getD undef) (fun i hi => ?_) (fun i c hc => ?_)
  · show (if w.heap.size = w.heap.size then vs[0 + i]? else _) = _
    rw [if_pos rfl, Nat.zero_add]
    have : i < vs.size := by rw [← h.size]; exact hi
    simp [this]
  · obtain ⟨v, hv, hr⟩ := h.get hc
    simp only [hv, Option.getD_some]
    exact hr.mono hle

/-- a boxed value: in an own block -/
theorem box_own (S : Sim base w0 g H w) {cs : List AV} {vs : Array Value} (h : RCells g cs vs) (t : TypeId) :
    ∃ g', g.le g' ∧ Sim base w0 g' (H ++ [.cells [cs] t]) (w.alloc (.cells vs t)) ∧ R g' (.mptr H.length 0 0) (.pointer (some ⟨w.heap.size, 0, none⟩)) := by
  have hle : g.le (g.phAdd H.length w.heap.size cs.length 1) := Gh.phAdd_le S.fresh
  refine ⟨_, hle, S.alloc (World.grownBy_alloc w _ none) (heap_alloc_new w _) (ORel.one (h.mono hle)), ?_⟩
  have := R.mptr (g := g.phAdd H.length w.heap.size cs.length 1) (b := H.length) (i := 0) (off := 0) (x := w.heap.size) (by simp [Gh.phAdd])
  simpa using this

/-! ### reading -/

theorem R.rptr_cell (S : Sim base w0 g H w) {cs : List AV} {off j : Nat} {p : Value} {c : AV} (h : R g (.rptr cs off) p) (hc : cs[off + j]? = some c) :
    ∃ ad : Addr, p = .pointer (some ad) ∧ ∃ v, w.cell? (ad.add j) = some v ∧ R g c v := by
  cases h with
  | rptr vs hf hr =>
    rename_i b o
    refine ⟨_, rfl, vs (off + j), ?_, hr _ _ hc⟩
    rw [add_none, Nat.add_assoc]
    exact S.fz _ _ _ (hf _ (List.getElem?_eq_some_iff.1 hc).1)

theorem cell_of_cells {x i : Nat} {cur : Array Value} {t : TypeId} {f : Nat × Nat} (h : w.heap[x]? = some (.cells cur t f)) : w.cell? ⟨x, i, none⟩ = cur[i]? := by
  simp [World.cell?, h]

theorem R.mptr_cell (S : Sim base w0 g H w) {b i off j : Nat} {p : Value} {es : List (List AV)} {t : TypeId} {e : List AV} {c : AV} (h : R g (.mptr b i off) p)
    (hb : H[b]? = some (.cells es t)) (he : es[i]? = some e) (hc : e[off + j]? = some c) :
    ∃ ad : Addr, p = .pointer (some ad) ∧ ∃ v, w.cell? (ad.add j) = some v ∧ R g c v := by
  cases h with
  | mptr h =>
    rename_i x
    obtain ⟨y, o, h1, h2, h3⟩ := S.obj b _ hb (by simp)
    rw [h] at h1; cases h1
    cases h3 with
    | cells hs hl hk hr =>
      obtain ⟨v, hv, hR⟩ := hr i e (off + j) c he hc
      refine ⟨_, rfl, v, ?_, hR⟩
      rw [add_none, cell_of_cells h2, Nat.add_assoc]
      exact hv

/-- what a load of type t reads out of cells, from off on -/
def loadA (P : Program) (t : TypeId) (cs : List AV) (off : Nat) : Option AV :=
  match P.underlying t, P.info? t with
  | some (.struct _), some i => if off + i.size ≤ cs.length then some (.agg ((cs.drop off).take i.size)) else none
  | some (.array _ _), some i => if off + i.size ≤ cs.length then some (.agg ((cs.drop off).take i.size)) else none
  | some _, some _ => cs[off]?
  | _, _ => none

theorem run_isAgg (t : TypeId) (d : TypeDesc) (h : P.underlying t = some d) : (isAgg t).run P w = .ok (match d with | .struct _ | .array _ _ => true | _ => false) w := by
  unfold isAgg
  simp only [Sem.run_bind, run_underlying h, Result.andThen_ok]
  cases d <;> rfl

theorem run_sizeOf (t : TypeId) (i : TypeInfo) (h : P.info? t = some i) : (sizeOf t).run P w = .ok i.size w := by
  simp [sizeOf, typeInfo, h]

theorem loadA_run {t : TypeId} {cs : List AV} {off : Nat} {a : AV} (h : loadA P t cs off = some a) (p : Value) (hne : ∃ ad : Addr, p = .pointer (some ad))
    (hcell : ∀ j c, cs[off + j]? = some c → ∃ ad : Addr, p = .pointer (some ad) ∧ ∃ v, w.cell? (ad.add j) = some v ∧ R g c v) :
    ∃ v, (Instr.loadAt t p).run P w = .ok v w ∧ R g a v := by
  obtain ⟨ad, rfl⟩ := hne
  have hcell' : ∀ j c, cs[off + j]? = some c → ∃ v, w.cell? (ad.add j) = some v ∧ R g c v := by
    intro j c hc
    obtain ⟨ad', e, v, h1, h2⟩ := hcell j c hc
    cases e
    exact ⟨v, h1, h2⟩
  have hagg : ∀ n, off + n ≤ cs.length → ∃ vs : List Value, (loadCells ad n).run P w = .ok vs.toArray w ∧ R g (.agg ((cs.drop off).take n)) (.agg vs.toArray) := by
    intro n hn
    have hall : ∀ j, j < n → ∃ c, cs[off + j]? = some c := fun j hj => ⟨cs[off + j], by simp [show off + j < cs.length by omega]⟩
    refine ⟨(List.range n).map fun j => (w.cell? (ad.add j)).getD undef, run_loadCells w ad n _ (fun j hj => ?_), ?_⟩
    · obtain ⟨c, hc⟩ := hall j hj
      obtain ⟨v, hv, _⟩ := hcell' j c hc
      simp [hv]
    · refine .agg (by simp; omega) (fun i c v hc hv => ?_)
      have hi : i < n := by
        rcases Nat.lt_or_ge i n with h | h
        · exact h
        · simp [h] at hv
      rw [List.getElem?_take, if_pos hi, List.getElem?_drop] at hc
      obtain ⟨u, hu, hR⟩ := hcell' i c hc
      simp [hi, hu] at hv
      subst hv
      exact hR
  unfold loadA at h
  unfold Instr.loadAt loadVar
  split at h
  · rename_i fs i hu hi
    split at h
    · cases h
      obtain ⟨vs, h1, h2⟩ := hagg i.size (by assumption)
      refine ⟨_, ?_, h2⟩
      simp [Instr.sureAddr, run_isAgg _ _ hu, run_sizeOf _ _ hi, h1]
    · cases h
  · rename_i n e i hu hi
    split at h
    · cases h
      obtain ⟨vs, h1, h2⟩ := hagg i.size (by assumption)
      refine ⟨_, ?_, h2⟩
      simp [Instr.sureAddr, run_isAgg _ _ hu, run_sizeOf _ _ hi, h1]
    · cases h
  · rename_i d i hs ha hu hi
    obtain ⟨v, hv, hR⟩ := hcell' 0 a (by simpa using h)
    rw [show ad.add 0 = ad from rfl] at hv
    refine ⟨v, ?_, hR⟩
    have hb : (isAgg t).run P w = .ok false w := by
      rw [run_isAgg _ _ hu]
      cases d <;> first | rfl | exact absurd rfl (hs _) | exact absurd rfl (ha _ _)
    simp [Instr.sureAddr, hb, hv]
  · cases h

end Go.Proofs.Ytphfdbmbdaninaa.Ab
namespace Go.Proofs.Ytphfdbmbdaninaa.Ab
open Go Go.RowKit

variable {base : Nat} {w0 w w' : World} {g : Gh} {H : Hp} {P : Program}

def AV.isCell : AV → Bool
  | .agg _ => false
  | .tup _ => false
  | .val v => v.oneCell'
  | _ => true

theorem R.isCell {a : AV} {v : Value} (h : R g a v) (hc : a.isCell = true) : v.oneCell' = true := by
  cases h <;> first | exact hc | rfl | cases hc

def setAt {α : Type} (e : List α) (off : Nat) (cs : List α) : List α := e.take off ++ cs ++ e.drop (off + cs.length)

theorem setAt_length {α : Type} (e cs : List α) (off : Nat) (h : off + cs.length ≤ e.length) : (setAt e off cs).length = e.length := by
  simp [setAt]; omega

theorem setAt_get {α : Type} (e cs : List α) (off j : Nat) (h : off + cs.length ≤ e.length) :
    (setAt e off cs)[j]? = if j < off then e[j]? else if j < off + cs.length then cs[j - off]? else e[j]? := by
  unfold setAt
  by_cases h1 : j < off
  · rw [if_pos h1, List.getElem?_append_left (by simp; omega), List.getElem?_append_left (by simp; omega), List.getElem?_take, if_pos h1]
  · rw [if_neg h1]
    by_cases h2 : j < off + cs.length
    · rw [if_pos h2, List.getElem?_append_left (by simp; omega), List.getElem?_append_right (by simp; omega)]
      congr 1
      simp; omega
    · rw [if_neg h2, List.getElem?_append_right (by simp; omega), List.getElem?_drop]
      congr 1
      simp; omega

theorem idx_lt {i i' j k : Nat} (h : i < i') (hj : j < k) : i * k + j < i' * k := by
  have := Nat.mul_le_mul_right k (Nat.succ_le_of_lt h)
  rw [Nat.succ_mul] at this
  omega

/-- one element of a row of cells is written in part -/
theorem ORel.write {k cp : Nat} {es : List (List AV)} {t : TypeId} {cur : Array Value} {i off : Nat} {e cs : List AV} {vs : Array Value}
    (h : ORel g k cp (.cells es t) (.cells cur t (0, 0))) (he : es[i]? = some e) (hoff : off + cs.length ≤ e.length) (hv : RCells g cs vs) :
    i * k + off + vs.size ≤ cur.size ∧
    ORel g k cp (.cells (es.set i (setAt e off cs)) t) (.cells (setAt cur.toList (i * k + off) vs.toList).toArray t (0, 0)) := by
  cases h with
  | cells hs hl hk hr =>
    have hek := hk i e he
    have hi : i < es.length := (List.getElem?_eq_some_iff.1 he).1
    have hsz := hv.size
    have hfit : i * k + off + vs.size ≤ cur.size := by
      have h1 := Nat.mul_le_mul_right k (Nat.le_trans (Nat.succ_le_of_lt hi) hl)
      rw [Nat.succ_mul] at h1
      omega
    refine ⟨hfit, .cells ?_ (by simpa using hl) (fun i' e' he' => ?_) (fun i' e' j c he' hc => ?_)⟩
    · rw [List.size_toArray, setAt_length _ _ _ (by simpa using hfit)]; simpa using hs
    · rw [List.getElem?_set] at he'
      by_cases hii : i = i'
      · rw [if_pos hii, if_pos hi] at he'
        cases he'; rw [setAt_length _ _ _ hoff]; exact hek
      · rw [if_neg hii] at he'
        exact hk i' e' he'
    · rw [List.getElem?_toArray, setAt_get _ _ _ _ (by simpa using hfit)]
      simp only [Array.length_toList, Array.getElem?_toList]
      rw [List.getElem?_set] at he'
      by_cases hii : i = i'
      · rw [if_pos hii, if_pos hi] at he'
        subst hii
        cases he'
        rw [setAt_get _ _ _ _ hoff] at hc
        by_cases h1 : j < off
        · rw [if_pos h1] at hc
          rw [if_pos (by omega)]
          exact hr i e j c he hc
        · rw [if_neg h1] at hc
          by_cases h2 : j < off + cs.length
          · rw [if_pos h2] at hc
            rw [if_neg (by omega), if_pos (by omega), show i * k + j - (i * k + off) = j - off by omega]
            exact hv.get hc
          · rw [if_neg h2] at hc
            rw [if_neg (by omega), if_neg (by omega)]
            exact hr i e j c he hc
      · rw [if_neg hii] at he'
        obtain ⟨v, h1, h2⟩ := hr i' e' j c he' hc
        have hj : j < k := by rw [← hk i' e' he']; exact (List.getElem?_eq_some_iff.1 hc).1
        refine ⟨v, ?_, h2⟩
        rw [← h1]
        rcases Nat.lt_or_gt_of_ne hii with h | h
        · have := idx_lt h (show k - 1 < k by omega)
          rw [if_neg (by omega), if_neg (by omega)]
        · have := idx_lt h hj
          rw [if_pos (by omega)]

/-- a store into an own block -/
theorem store_own (S : Sim base w0 g H w) {b i off : Nat} {es : List (List AV)} {t : TypeId} {e : List AV} {p v : Value} {a : AV} {ty : TypeId} {inf : TypeInfo}
    (hp : R g (.mptr b i off) p) (hb : H[b]? = some (.cells es t)) (he : es[i]? = some e) (hv : R g a v) (hi : P.info? ty = some inf) (hsz : inf.size = a.cells.length)
    (hoff : off + a.cells.length ≤ e.length) (hc : a.cells.all AV.isCell = true) :
    ∃ w', (Instr.storeAt ty p v).run P w = .ok () w' ∧ Sim base w0 g (H.set b (.cells (es.set i (setAt e off a.cells)) t)) w' := by
  cases hp with
  | mptr hx =>
    rename_i x
    obtain ⟨y, o, h1, h2, h3⟩ := S.obj b _ hb (by simp)
    rw [hx] at h1; cases h1
    have hcs := hv.cells
    cases h3 with
    | cells hs hl hk hr =>
      rename_i cur
      have hw := ORel.write (t := t) (.cells hs hl hk hr) he hoff hcs
      have hone : ∀ u ∈ v.cells.toList, u.oneCell' = true := by
        intro u hu
        obtain ⟨j, hj⟩ := List.getElem?_of_mem hu
        have hj' : j < a.cells.length := by rw [hcs.size]; simpa using (List.getElem?_eq_some_iff.1 hj).1
        have hcj : a.cells[j]? = some a.cells[j] := by simp [hj']
        exact (hcs.cell j _ u hcj (by simpa using hj)).isCell (List.all_eq_true.1 hc _ (List.getElem_mem hj'))
      have hrun := run_storeCells_at P x (i * g.ks b + off) t v.cells.toList 0 cur w h2 (by simpa using hw.1) hone
      refine ⟨_, ?_, S.turn hb (by simp) hx (w' := w.setRow x (setAt cur.toList (i * g.ks b + off) v.cells.toList).toArray) ?_ (setRow_heap w x cur _ t _ h2) hw.2⟩
      · simp only [Instr.storeAt, Instr.sureAddr, storeVar, Sem.run_bind, Sem.run_pure, Result.andThen_ok, run_sizeOf _ _ hi]
        have : ¬ (v.cells.size ≠ inf.size) := by rw [hsz, hcs.size]; simp
        rw [if_neg this, hrun]
        simp [setAt]
      · exact ⟨rfl, rfl, rfl, by simp [World.setRow], fun k _ hk => setRow_other w x k _ (fun e => hk (by simp [e]))⟩

/-! ### addresses -/

theorem rptr_add {cs : List AV} {off d : Nat} {p : Value} (h : R g (.rptr cs off) p) : ∃ ad : Addr, p = .pointer (some ad) ∧ R g (.rptr cs (off + d)) (.pointer (some (ad.add d))) := by
  cases h with
  | rptr vs hf hr => exact ⟨_, rfl, by rw [add_none, Nat.add_assoc]; exact .rptr vs hf hr⟩

theorem mptr_add {b i off d : Nat} {p : Value} (h : R g (.mptr b i off) p) : ∃ ad : Addr, p = .pointer (some ad) ∧ R g (.mptr b i (off + d)) (.pointer (some (ad.add d))) := by
  cases h with
  | mptr hx => exact ⟨_, rfl, by rw [add_none, Nat.add_assoc]; exact .mptr hx⟩

/-- the offset of a field -/
def fieldOff (P : Program) (s : TypeId) (f : Nat) : Option Nat :=
  match P.underlying s with
  | some (.struct fields) => match fields[f]? with
    | some fl => match P.info? fl.type with
      | some i => if i.size = 0 then none else some fl.offset
      | none => none
    | none => none
  | _ => none

theorem fieldOff_run {s : TypeId} {f d : Nat} (h : fieldOff P s f = some d) (ad : Addr) :
    (Instr.fieldAt s (.pointer (some ad)) f).run P w = .ok (.pointer (some (ad.add d))) w := by
  unfold fieldOff at h
  split at h
  · rename_i fields hu
    split at h
    · rename_i fl hf
      split at h
      · rename_i i hi
        split at h
        · cases h
        · rename_i hne
          cases h
          simp [Instr.fieldAt, run_underlying hu, hf, Instr.sureAddr, fieldPlace, run_sizeOf _ _ hi, hne]
      · cases h
    · cases h
  · cases h

/-- an element's address -/
theorem rsl_index {es : List (List AV)} {ex : Bool} {x : Value} {i : Nat} {e : List AV} (h : R g (.rsl es ex) x) (he : es[i]? = some e) :
    ∃ (ad : Addr) (n cap : Nat), x = .slice (some ad) n cap ∧ n = es.length ∧ R g (.rptr e 0) (.pointer (some (ad.add (i * e.length)))) := by
  cases h with
  | rnil => cases he
  | rsl vs hn hl hc hm hk hf hr =>
    rename_i b o k n cap
    refine ⟨_, _, _, rfl, hn, ?_⟩
    have hek := hk i e he
    rw [add_none]
    have hi : i < es.length := (List.getElem?_eq_some_iff.1 he).1
    have : R g (.rptr e 0) (.pointer (some ⟨b, (o + i * e.length) + 0, none⟩)) :=
      .rptr (vs i) (fun j hj => by rw [hek]; exact hf i j hi (by omega)) (fun j c hc => hr i e j c he hc)
    simpa using this

theorem msl_index (S : Sim base w0 g H w) {b off len i : Nat} {x : Value} {es : List (List AV)} {t : TypeId} {e : List AV} (h : R g (.msl b off len) x) (hb : H[b]? = some (.cells es t)) (he : es[off + i]? = some e) :
    ∃ (ad : Addr) (cap : Nat), x = .slice (some ad) len cap ∧ R g (.mptr b (off + i) 0) (.pointer (some (ad.add (i * e.length)))) := by
  cases h with
  | msl hx hl hc hm =>
    rename_i y cap
    obtain ⟨z, o, h1, h2, h3⟩ := S.obj b _ hb (by simp)
    cases h3 with
    | cells hs hl' hk hr =>
      have hek := hk _ e he
      refine ⟨_, _, rfl, ?_⟩
      rw [add_none, hek, ← Nat.add_mul]
      have := R.mptr (g := g) (b := b) (i := off + i) (off := 0) hx
      simpa using this

end Go.Proofs.Ytphfdbmbdaninaa.Ab
namespace Go.Proofs.Ytphfdbmbdaninaa.Ab
open Go Go.RowKit

variable {base : Nat} {w0 w w' : World} {g : Gh} {H : Hp} {P : Program}

theorem foldset (off : Nat) : ∀ (l : List Value) (s : Nat) (cells : Array Value), off + s + l.length ≤ cells.size →
    ((l.zipIdx s).foldl (fun cs (c, j) => cs.setIfInBounds (off + j) c) cells).toList = setAt cells.toList (off + s) l
  | [], s, cells, h => by simp [setAt]
  | c :: l, s, cells, h => by
    rw [List.zipIdx_cons, List.foldl_cons, foldset off l (s + 1) _ (by simp at h ⊢; omega)]
    apply List.ext_getElem?
    intro j
    simp at h
    rw [setAt_get _ _ _ _ (by simp; omega), setAt_get _ _ _ _ (by simp; omega)]
    simp only [Array.toList_setIfInBounds, List.length_cons, List.getElem?_set, Array.length_toList]
    by_cases h1 : j < off + s
    · rw [if_pos (by omega), if_pos h1, if_neg (by omega)]
    · rw [if_neg h1]
      by_cases h2 : j = off + s
      · subst h2
        rw [if_pos (by omega), if_pos rfl, if_pos (by omega), if_pos (by omega)]
        simp
      · rw [if_neg (by omega)]
        by_cases h3 : j < off + s + (l.length + 1)
        · rw [if_pos (by omega), if_pos h3, show j - (off + s) = (j - (off + (s + 1))) + 1 by omega, List.getElem?_cons_succ]
        · rw [if_neg (by omega), if_neg h3, if_neg (by omega)]

def fillA (place : Nat → Option (Nat × Nat)) (cells : List AV) : List (Nat × AV) → Option (List AV)
  | [] => some cells
  | (i, v) :: rest =>
    match place i with
    | none => none
    | some (off, size) => if v.cells.length ≠ size ∨ off + v.cells.length > cells.length then none else fillA place (setAt cells off v.cells) rest

theorem RCells.setAt {cs ds : List AV} {vs us : Array Value} {off : Nat} (h : RCells g cs vs) (k : RCells g ds us) (hoff : off + ds.length ≤ cs.length) :
    RCells g (setAt cs off ds) (Ab.setAt vs.toList off us.toList).toArray := by
  have h1 := h.size
  have h2 := k.size
  refine ⟨by simp [setAt_length _ _ _ hoff]; rw [setAt_length _ _ _ (by simp; omega)]; simpa using h1, fun i c v hc hv => ?_⟩
  rw [setAt_get _ _ _ _ hoff] at hc
  rw [List.getElem?_toArray, setAt_get _ _ _ _ (by simp; omega)] at hv
  simp only [Array.length_toList, Array.getElem?_toList, ← h2] at hv
  by_cases e1 : i < off
  · rw [if_pos e1] at hc hv; exact h.cell i c v hc hv
  · rw [if_neg e1] at hc hv
    by_cases e2 : i < off + ds.length
    · rw [if_pos e2] at hc hv; exact k.cell _ c v hc hv
    · rw [if_neg e2] at hc hv; exact h.cell i c v hc hv

theorem fill_run (place : Nat → Option (Nat × Nat)) : ∀ (ps : List (Nat × AV)) (qs : List (Nat × Value)) (cs : List AV) (vs : Array Value) (out : List AV),
    RCells g cs vs → ps.length = qs.length → (∀ (n : Nat) (p : Nat × AV) (q : Nat × Value), ps[n]? = some p → qs[n]? = some q → p.1 = q.1 ∧ R g p.2 q.2) → fillA place cs ps = some out →
    ∃ us, Instr.fill place vs qs = some us ∧ RCells g out us
  | [], [], cs, vs, out, h, _, _, e => by simp only [fillA, Option.some.injEq] at e; subst e; exact ⟨vs, rfl, h⟩
  | [], _ :: _, _, _, _, _, hl, _, _ => by simp at hl
  | _ :: _, [], _, _, _, _, hl, _, _ => by simp at hl
  | (i, a) :: ps, (i', v) :: qs, cs, vs, out, h, hl, hr, e => by
    obtain ⟨e0, hR⟩ := hr 0 (i, a) (i', v) rfl rfl
    simp only at e0; subst e0
    have hc := hR.cells
    simp only at hc
    have hsz := hc.size
    have hsz' := h.size
    simp only [fillA] at e
    simp only [Instr.fill]
    split at e
    · cases e
    · rename_i off size hp
      split at e
      · cases e
      · rename_i hn
        rw [not_or] at hn
        obtain ⟨hn1, hn2⟩ := hn
        simp only [hp]
        rw [if_neg (by simp only [Bool.or_eq_true, decide_eq_true_eq, not_or]; omega)]
        have hfold : (v.cells.zipIdx.foldl (fun cs (c, j) => cs.setIfInBounds (off + j) c) vs) = (setAt vs.toList off v.cells.toList).toArray := by
          have := foldset off v.cells.toList 0 vs (by simp; omega)
          apply Array.ext'
          rw [← Array.foldl_toList, Array.toList_zipIdx]
          simpa using this
        rw [hfold]
        exact fill_run place ps qs _ _ out (h.setAt hc (by omega)) (by simpa using hl) (fun n p q hp hq => hr (n + 1) p q (by simpa using hp) (by simpa using hq)) e

/-- the places of a struct's fields -/
def placeA (P : Program) (fields : Array Field) (i : Nat) : Option (Nat × Nat) :=
  match fields[i]? with
  | some f => match P.info? f.type with
    | some inf => some (f.offset, inf.size)
    | none => none
  | none => none

theorem places_run (P : Program) : ∀ (fs : List Field), (∀ f, f ∈ fs → (P.info? f.type).isSome = true) →
    (fs.mapM fun f => do pure (f.offset, ← sizeOf f.type) : Sem (List (Nat × Nat))).run P w = .ok (fs.map fun f => (f.offset, ((P.info? f.type).map (·.size)).getD 0)) w
  | [], _ => by simp
  | f :: fs, h => by
    have h1 := h f (by simp)
    obtain ⟨i, hi⟩ := Option.isSome_iff_exists.1 h1
    have ih := places_run P fs (fun f' hf => h f' (by simp [hf]))
    rw [List.mapM_cons]
    simp only [Sem.run_bind, run_sizeOf _ _ hi, Result.andThen_ok, Sem.run_pure, ih, List.map_cons, hi, Option.map_some, Option.getD_some]

/-- the parts of a composite literal -/
def partsA (T : Operand → AV) (ps : Array (Nat × Operand)) : List (Nat × AV) := ps.toList.map fun p => (p.1, T p.2)

def buildA (P : Program) (t : TypeId) (ps : List (Nat × AV)) : Option AV :=
  match P.underlying t, P.info? t with
  | some (.struct fields), some inf =>
    match inf.zero with
    | some z => if fields.toList.all (fun f => (P.info? f.type).isSome) then (fillA (placeA P fields) (z.cells.toList.map .val) ps).map .agg else none
    | none => none
  | some (.array _ elem), some inf =>
    match inf.zero, P.info? elem with
    | some z, some ie => (fillA (fun i => some (i * ie.size, ie.size)) (z.cells.toList.map .val) ps).map .agg
    | _, _ => none
  | _, _ => none

theorem RCells.vals (vs : Array Value) : RCells g (vs.toList.map .val) vs := by
  refine ⟨by simp, fun i c v hc hv => ?_⟩
  simp only [List.getElem?_map, Array.getElem?_toList, hv, Option.map_some, Option.some.injEq] at hc
  subst hc
  exact .val v

theorem build_run {t : TypeId} {ps : List (Nat × AV)} {qs : Array (Nat × Value)} {a : AV} (h : buildA P t ps = some a) (hl : ps.length = qs.size)
    (hr : ∀ (n : Nat) (p : Nat × AV) (q : Nat × Value), ps[n]? = some p → qs[n]? = some q → p.1 = q.1 ∧ R g p.2 q.2) :
    ∃ v, (Instr.build t qs).run P w = .ok v w ∧ R g a v := by
  have hr' : ∀ (n : Nat) (p : Nat × AV) (q : Nat × Value), ps[n]? = some p → qs.toList[n]? = some q → p.1 = q.1 ∧ R g p.2 q.2 := fun n p q hp hq => hr n p q hp (by simpa using hq)
  unfold buildA at h
  split at h
  · rename_i fields inf hu hi
    split at h
    · rename_i z hz
      split at h
      · rename_i hall
        simp only [Option.map_eq_some_iff] at h
        obtain ⟨cs, hcs, rfl⟩ := h
        obtain ⟨us, hus, hR⟩ := fill_run (placeA P fields) ps qs.toList _ _ cs (RCells.vals z.cells) (by simpa using hl) hr' hcs
        refine ⟨.agg us, ?_, .agg hR.size hR.cell⟩
        have hpl : (fields.mapM fun f => do pure (f.offset, ← sizeOf f.type) : Sem (Array (Nat × Nat))).run P w = .ok (fields.toList.map fun f => (f.offset, ((P.info? f.type).map (·.size)).getD 0)).toArray w := by
          rw [Array.mapM_eq_mapM_toList, Sem.run_map, places_run P fields.toList (fun f hf => List.all_eq_true.1 hall f hf)]
          rfl
        have hplace : (fun i => (fields.toList.map fun f => (f.offset, ((P.info? f.type).map (·.size)).getD 0)).toArray[i]?) = placeA P fields := by
          funext i
          simp only [List.getElem?_toArray, List.getElem?_map, Array.getElem?_toList, placeA]
          cases hf : fields[i]? with
          | none => rfl
          | some f =>
            have : f ∈ fields.toList := by simpa using Array.mem_of_getElem? hf
            obtain ⟨inf', hinf'⟩ := Option.isSome_iff_exists.1 (List.all_eq_true.1 hall f this)
            simp [hinf']
        simp only [Instr.build, Sem.run_bind, zeroValue, typeInfo, run_program, Result.andThen_ok, hi, hz, Sem.run_pure, run_underlying hu, hpl, hplace, hus]
      · cases h
    · cases h
  · rename_i n elem inf hu hi
    split at h
    · rename_i z ie hz hie
      simp only [Option.map_eq_some_iff] at h
      obtain ⟨cs, hcs, rfl⟩ := h
      obtain ⟨us, hus, hR⟩ := fill_run (fun i => some (i * ie.size, ie.size)) ps qs.toList _ _ cs (RCells.vals z.cells) (by simpa using hl) hr' hcs
      refine ⟨.agg us, ?_, .agg hR.size hR.cell⟩
      simp only [Instr.build, Sem.run_bind, zeroValue, typeInfo, run_program, Result.andThen_ok, hi, hz, Sem.run_pure, run_underlying hu, run_sizeOf _ _ hie, hus]
    · cases h
  · cases h

end Go.Proofs.Ytphfdbmbdaninaa.Ab
namespace Go.Proofs.Ytphfdbmbdaninaa.Ab
open Go Go.RowKit

variable {base : Nat} {w0 w w' : World} {g : Gh} {H : Hp} {P : Program}

/-- elements of k cells each, one behind the other -/
structure FRel (g : Gh) (k : Nat) (es : List (List AV)) (us : List Value) : Prop where
  size : us.length = es.length * k
  len : ∀ (i : Nat) (e : List AV), es[i]? = some e → e.length = k
  cell : ∀ (i : Nat) (e : List AV) (j : Nat) (c : AV), es[i]? = some e → e[j]? = some c → ∃ v, us[i * k + j]? = some v ∧ R g c v

theorem FRel.mono {g' : Gh} (hg : g.le g') {k : Nat} {es : List (List AV)} {us : List Value} (h : FRel g k es us) : FRel g' k es us :=
  ⟨h.size, h.len, fun i e j c he hc => let ⟨v, h1, h2⟩ := h.cell i e j c he hc; ⟨v, h1, h2.mono hg⟩⟩

theorem FRel.lt {k : Nat} {es : List (List AV)} {us : List Value} (h : FRel g k es us) {i j : Nat} {e : List AV} {c : AV} (he : es[i]? = some e) (hc : e[j]? = some c) : i * k + j < us.length := by
  obtain ⟨v, hv, _⟩ := h.cell i e j c he hc
  exact (List.getElem?_eq_some_iff.1 hv).1

theorem FRel.append {k : Nat} {es es' : List (List AV)} {us us' : List Value} (h : FRel g k es us) (h' : FRel g k es' us') : FRel g k (es ++ es') (us ++ us') := by
  refine ⟨by simp [h.size, h'.size, Nat.add_mul], fun i e he => ?_, fun i e j c he hc => ?_⟩
  · rw [List.getElem?_append] at he
    split at he
    · exact h.len i e he
    · exact h'.len _ e he
  · rw [List.getElem?_append] at he
    split at he
    · obtain ⟨v, hv, hR⟩ := h.cell i e j c he hc
      exact ⟨v, by rw [List.getElem?_append_left (h.lt he hc)]; exact hv, hR⟩
    · rename_i hge
      obtain ⟨v, hv, hR⟩ := h'.cell _ e j c he hc
      refine ⟨v, ?_, hR⟩
      have hle : us.length ≤ i * k + j := by rw [h.size]; exact Nat.le_trans (Nat.mul_le_mul_right k (by omega)) (Nat.le_add_right _ _)
      rw [List.getElem?_append_right hle, ← hv, h.size]
      congr 1
      have := Nat.sub_mul i es.length k
      have := Nat.mul_le_mul_right k (show es.length ≤ i by omega)
      omega

theorem FRel.nil (k : Nat) : FRel g k [] [] := ⟨by simp, by simp, by simp⟩

theorem FRel.orel {k cp : Nat} {es : List (List AV)} {us : List Value} (h : FRel g k es us) {cur : Array Value} {t : TypeId} (hs : cur.size = cp * k) (hl : es.length ≤ cp)
    (ht : cur.toList.take (es.length * k) = us) : ORel g k cp (.cells es t) (.cells cur t (0, 0)) := by
  refine .cells hs hl h.len (fun i e j c he hc => ?_)
  obtain ⟨v, hv, hR⟩ := h.cell i e j c he hc
  refine ⟨v, ?_, hR⟩
  rw [← ht, List.getElem?_take] at hv
  split at hv
  · simpa using hv
  · cases hv

theorem FRel.one {k : Nat} {es : List (List AV)} {us : List Value} (h : FRel g k es us) (hc : es.all (fun e => e.all AV.isCell) = true) (hk : 0 < k) : ∀ u ∈ us, u.oneCell' = true := by
  intro u hu
  obtain ⟨p, hp⟩ := List.getElem?_of_mem hu
  have hlt : p < es.length * k := by rw [← h.size]; exact (List.getElem?_eq_some_iff.1 hp).1
  have hi : p / k < es.length := Nat.div_lt_of_lt_mul (by rw [Nat.mul_comm]; exact hlt)
  have hj : p % k < k := Nat.mod_lt _ hk
  have he : es[p / k]? = some es[p / k] := by simp [hi]
  have hlen := h.len _ _ he
  have hce : es[p / k][p % k]? = some (es[p / k][p % k]'(by omega)) := by simp [hlen, hj]
  obtain ⟨v, hv, hR⟩ := h.cell _ _ _ _ he hce
  rw [Nat.mul_comm, Nat.div_add_mod] at hv
  rw [hv] at hp
  cases hp
  have h1 := List.all_eq_true.1 hc _ (List.getElem_mem hi)
  exact hR.isCell (List.all_eq_true.1 h1 _ (List.getElem_mem _))

theorem rsl_flat (S : Sim base w0 g H w) {es : List (List AV)} {ex : Bool} {x : Value} {k : Nat} (h : R g (.rsl es ex) x) (hk : 0 < k) (hlen : es.all (fun e => e.length == k) = true) (hne : ∀ a, x ≠ .slice a 0 0) :
    ∃ (ad : Addr) (cap : Nat) (us : List Value), x = .slice (some ad) es.length cap ∧ es.length ≤ cap ∧ (ex = true → cap = es.length) ∧ cap ≤ maxLen ∧ FRel g k es us ∧ ∀ j u, us[j]? = some u → w.cell? (ad.add j) = some u := by
  cases h with
  | rnil a => exact absurd rfl (hne a)
  | rsl vs hn hl hc hm hk' hf hr =>
    rename_i b o k' n cap
    subst hn
    have hl' : ∀ (i : Nat) (e : List AV), es[i]? = some e → e.length = k := fun i e he => by
      have := List.all_eq_true.1 hlen e (List.mem_of_getElem? he)
      simpa using this
    refine ⟨_, cap, (List.range (es.length * k)).map fun p => vs (p / k) (p % k), rfl, hl, hc, hm, ⟨by simp, hl', fun i e j c he hc => ?_⟩, fun p u hp => ?_⟩
    · have hj : j < k := by rw [← hl' i e he]; exact (List.getElem?_eq_some_iff.1 hc).1
      have hi : i < es.length := (List.getElem?_eq_some_iff.1 he).1
      have hlt := idx_lt hi hj
      refine ⟨vs i j, ?_, hr i e j c he hc⟩
      rw [List.getElem?_map, List.getElem?_range hlt, Option.map_some]
      have e1 : (i * k + j) / k = i := by rw [Nat.mul_comm, Nat.mul_add_div hk, Nat.div_eq_of_lt hj, Nat.add_zero]
      have e2 : (i * k + j) % k = j := by rw [Nat.mul_comm, Nat.mul_add_mod, Nat.mod_eq_of_lt hj]
      rw [e1, e2]
    · have hp' : p < es.length * k := by
        rcases Nat.lt_or_ge p (es.length * k) with h | h
        · exact h
        · simp [h] at hp
      rw [List.getElem?_map, List.getElem?_range hp', Option.map_some, Option.some.injEq] at hp
      subst hp
      have hi : p / k < es.length := Nat.div_lt_of_lt_mul (by rw [Nat.mul_comm]; exact hp')
      have hj : p % k < k := Nat.mod_lt _ hk
      have he : es[p / k]? = some es[p / k] := by simp [hi]
      have ek : k' = k := (hk' _ _ he).symm.trans (hl' _ _ he)
      subst ek
      rw [add_none]
      have := S.fz _ _ _ (hf (p / k') (p % k') hi hj)
      rw [Nat.add_assoc, Nat.mul_comm, Nat.div_add_mod] at this
      exact this

theorem msl_flat (S : Sim base w0 g H w) {b off len : Nat} {x : Value} {k : Nat} {es : List (List AV)} {t : TypeId} (h : R g (.msl b off len) x) (hb : H[b]? = some (.cells es t))
    (hfit : off + len ≤ es.length) (hlen : es.all (fun e => e.length == k) = true) (h0 : 0 < es.length) :
    ∃ (y cap : Nat) (cur : Array Value), x = .slice (some ⟨y, off * k, none⟩) len cap ∧ g.ph b = some y ∧ g.ks b = k ∧ len ≤ cap ∧ off + cap = g.cp b ∧ cap ≤ maxLen ∧ w.heap[y]? = some (.cells cur t (0, 0)) ∧ cur.size = g.cp b * k ∧
      FRel g k ((es.drop off).take len) ((cur.toList.drop (off * k)).take (len * k)) := by
  cases h with
  | msl hx hl hc hm =>
    rename_i y cap
    obtain ⟨z, o, h1, h2, h3⟩ := S.obj b _ hb (by simp)
    rw [hx] at h1; cases h1
    cases h3 with
    | cells hs hl' hk hr =>
      rename_i cur
      have hl'' : ∀ (i : Nat) (e : List AV), es[i]? = some e → e.length = k := fun i e he => by
        have := List.all_eq_true.1 hlen e (List.mem_of_getElem? he)
        simpa using this
      have ek : g.ks b = k := by
        have he : es[0]? = some es[0] := by simp [h0]
        exact (hk _ _ he).symm.trans (hl'' _ _ he)
      rw [ek] at hs hr
      refine ⟨_, cap, cur, by rw [ek], hx, ek, hl, hc, hm, h2, hs, ⟨?_, fun i e he => ?_, fun i e j c he hc' => ?_⟩⟩
      · have e1 := Nat.mul_le_mul_right k (show off + len ≤ g.cp b by omega)
        have e2 := Nat.add_mul off len k
        simp only [List.length_take, List.length_drop, Array.length_toList]
        rw [show min len (es.length - off) = len by omega]
        omega
      · rw [List.getElem?_take] at he
        split at he
        · rw [List.getElem?_drop] at he; exact hl'' _ e he
        · cases he
      · rw [List.getElem?_take] at he
        split at he
        · rename_i hi
          rw [List.getElem?_drop] at he
          obtain ⟨v, hv, hR⟩ := hr _ e j c he hc'
          refine ⟨v, ?_, hR⟩
          have hj : j < k := by rw [← hl'' _ e he]; exact (List.getElem?_eq_some_iff.1 hc').1
          rw [List.getElem?_take, if_pos (idx_lt hi hj), List.getElem?_drop, Array.getElem?_toList, ← hv]
          congr 1
          have := Nat.add_mul off i k
          omega
        · cases he

/-- an own row of cells, told under a new number -/
theorem own_new (S : Sim base w0 g H w) {es : List (List AV)} {us : List Value} {cur : Array Value} {t : TypeId} {k cp : Nat} (hF : FRel g k es us) (hs : cur.size = cp * k) (hl : es.length ≤ cp)
    (ht : cur.toList.take (es.length * k) = us) (hm : cp ≤ maxLen) (hg : w.grownBy w' none) (hx : w'.heap[w.heap.size]? = some (.cells cur t (0, 0))) :
    ∃ g', g.le g' ∧ Sim base w0 g' (H ++ [.cells es t]) w' ∧ R g' (.msl H.length 0 es.length) (.slice (some ⟨w.heap.size, 0, none⟩) es.length cp) := by
  have hle : g.le (g.phAdd H.length w.heap.size k cp) := Gh.phAdd_le S.fresh
  refine ⟨_, hle, S.alloc hg hx ((hF.mono hle).orel hs hl ht), ?_⟩
  have : R (g.phAdd H.length w.heap.size k cp) (.msl H.length 0 es.length) (.slice (some ⟨w.heap.size, 0 * (g.phAdd H.length w.heap.size k cp).ks H.length, none⟩) es.length cp) :=
    .msl (by simp [Gh.phAdd]) hl (by simp [Gh.phAdd]) hm
  simpa using this

/-- what is appended: elements, where they lie -/
structure Src (w : World) (g : Gh) (k : Nat) (xs : List (List AV)) (x : Value) : Prop where
  at_ : ∃ (ad : Addr) (c : Nat) (us : List Value), x = .slice (some ad) xs.length c ∧ FRel g k xs us ∧ ∀ j u, us[j]? = some u → w.cell? (ad.add j) = some u

theorem Src.rsl (S : Sim base w0 g H w) {xs : List (List AV)} {ex : Bool} {x : Value} {k : Nat} (h : R g (.rsl xs ex) x) (hk : 0 < k) (hlen : xs.all (fun e => e.length == k) = true) (h0 : 0 < xs.length) : Src w g k xs x := by
  obtain ⟨ad, cap, us, h1, _, _, _, h2, h3⟩ := rsl_flat S h hk hlen (by rintro a rfl; cases h <;> first | cases h0 | (rename_i hn _ _ _ _ _ _; omega))
  exact ⟨ad, cap, us, h1, h2, h3⟩

theorem Src.msl (S : Sim base w0 g H w) {b off len : Nat} {x : Value} {k : Nat} {es : List (List AV)} {t : TypeId} (h : R g (.msl b off len) x) (hb : H[b]? = some (.cells es t))
    (hfit : off + len ≤ es.length) (hlen : es.all (fun e => e.length == k) = true) (h0 : 0 < es.length) : Src w g k ((es.drop off).take len) x := by
  obtain ⟨y, cap, cur, h1, h2, h3, h4, h5, h6, h7, h8, h9⟩ := msl_flat S h hb hfit hlen h0
  refine ⟨⟨y, off * k, none⟩, cap, _, ?_, h9, fun j u hu => ?_⟩
  · rw [h1]; congr 1; simp; omega
  · rw [List.getElem?_take] at hu
    split at hu
    · rw [List.getElem?_drop] at hu
      rw [add_none, cell_of_cells h7]
      simpa using hu
    · cases hu

section append
variable {t ty e : TypeId} {inf : TypeInfo} {z : Value} {xs : List (List AV)} {x : Value}

theorem append_nil (S : Sim base w0 g H w) (ht : P.underlying t = some (.slice e)) (hi : P.info? e = some inf) (hz : inf.zero = some z) (hzs : z.cells.size = inf.size)
    (hx : Src w g inf.size xs x) (h0 : 0 < xs.length) (hm : xs.length ≤ maxLen) (hb : xs.length * inf.bytes ≤ 140737488355328) :
    ∃ v w' g', (Builtin.append_ #[t, t] ty #[.slice none 0 0, x]).run P w = .ok v w' ∧ g.le g' ∧ Sim base w0 g' (H ++ [.cells xs e]) w' ∧ R g' (.msl H.length 0 xs.length) v := by
  obtain ⟨ad, c, us, rfl, hF, hus⟩ := hx.at_
  have hr := run_append_nil (P := P) w t ty e inf z ht hi hz ad xs.length c us hF.size hus h0 (by simp only [maxLen] at hm; omega) (by omega)
  have hge := grownCap_ge w xs.length 0 e
  have hcm := grownCap_le_maxLen w xs.length 0 e hm
  have hown := own_new S (w' := w.drew.alloc (.cells (us.toArray ++ Builtin.zeroCells z.cells (grownCap w xs.length 0 e - xs.length)) e))
    (cur := us.toArray ++ Builtin.zeroCells z.cells (grownCap w xs.length 0 e - xs.length)) (t := e) (cp := grownCap w xs.length 0 e) hF ?_ hge ?_ hcm
    ⟨rfl, rfl, rfl, by simp, fun k hk _ => heap_alloc_old w.drew _ k hk⟩ (heap_alloc_new w.drew _)
  · obtain ⟨g', h1, h2, h3⟩ := hown
    exact ⟨_, _, g', hr, h1, h2, h3⟩
  · simp only [Array.size_append, List.size_toArray, size_zeroCells, hzs, hF.size, ← Nat.add_mul]
    congr 1
    omega
  · rw [← hF.size]
    simp

theorem append_exact (S : Sim base w0 g H w) (ht : P.underlying t = some (.slice e)) (hi : P.info? e = some inf) (hz : inf.zero = some z) (hzs : z.cells.size = inf.size) (hk : 0 < inf.size)
    {es : List (List AV)} {s : Value} (hs : R g (.rsl es true) s) (hlen : es.all (fun e => e.length == inf.size) = true)
    (hx : Src w g inf.size xs x) (h0 : 0 < xs.length) (hm : es.length + xs.length ≤ maxLen) (hb : (es.length + xs.length) * inf.bytes ≤ 140737488355328) :
    ∃ v w' g', (Builtin.append_ #[t, t] ty #[s, x]).run P w = .ok v w' ∧ g.le g' ∧ Sim base w0 g' (H ++ [.cells (es ++ xs) e]) w' ∧ R g' (.msl H.length 0 (es.length + xs.length)) v := by
  have hel : (es = [] ∧ ∃ a, s = .slice a 0 0) ∨ ∀ a, s ≠ .slice a 0 0 := by
    cases hs with
    | rnil a => exact .inl ⟨rfl, a, rfl⟩
    | rsl vs hn hl hc hm' hk' hf hr =>
      rcases es with _ | ⟨e0, es⟩
      · refine .inl ⟨rfl, ?_⟩
        rw [hn, hc rfl, hn]
        exact ⟨_, rfl⟩
      · refine .inr fun a h => ?_
        injection h with _ h2 _
        rw [h2] at hn
        simp at hn
  rcases hel with ⟨rfl, a, rfl⟩ | hne
  · cases a with
    | none => simpa using append_nil (ty := ty) S ht hi hz hzs hx h0 (by simpa using hm) (by simpa using hb)
    | some as =>
      obtain ⟨ad, c, us, rfl, hF, hus⟩ := hx.at_
      have hm0 : xs.length ≤ maxLen := by simpa using hm
      have hr := run_append_grow (P := P) w t ty e inf z ht hi hz as 0 0 [] (by simp) (by simp) ad xs.length c us hF.size hus (by omega) (by simp only [maxLen] at hm0; omega) (growslice_fits (by omega) (by simpa using hb))
      simp only [Nat.zero_add] at hr
      have hge := grownCap_ge w xs.length 0 e
      have hcm := grownCap_le_maxLen w xs.length 0 e hm0
      have hown := own_new S (w' := w.drew.alloc (.cells (#[] ++ us.toArray ++ Builtin.zeroCells z.cells (grownCap w xs.length 0 e - xs.length)) e))
        (cur := #[] ++ us.toArray ++ Builtin.zeroCells z.cells (grownCap w xs.length 0 e - xs.length)) (t := e) (cp := grownCap w xs.length 0 e) hF ?_ hge ?_ hcm
        ⟨rfl, rfl, rfl, by simp, fun k hk _ => heap_alloc_old w.drew _ k hk⟩ (heap_alloc_new w.drew _)
      · obtain ⟨g', h1, h2, h3⟩ := hown
        refine ⟨_, _, g', hr, h1, h2, ?_⟩
        simpa using h3
      · simp only [Array.size_append, List.size_toArray, size_zeroCells, hzs, hF.size, ← Nat.add_mul, List.size_toArray, List.length_nil, Nat.zero_add]
        congr 1
        omega
      · rw [← hF.size]
        simp
  obtain ⟨ad, c, us, rfl, hF, hus⟩ := hx.at_
  obtain ⟨as, cap, os, rfl, hcl, hce, hcm', hO, hos⟩ := rsl_flat S hs hk hlen hne
  have hce := hce rfl
  subst hce
  have hr := run_append_grow (P := P) w t ty e inf z ht hi hz as es.length es.length os hO.size hos ad xs.length c us hF.size hus (by omega) (by simp only [maxLen] at hm; omega) (growslice_fits (by omega) hb)
  have hge := grownCap_ge w (es.length + xs.length) es.length e
  have hcm := grownCap_le_maxLen w (es.length + xs.length) es.length e hm
  have hFO := hO.append hF
  have hown := own_new S (w' := w.drew.alloc (.cells (os.toArray ++ us.toArray ++ Builtin.zeroCells z.cells (grownCap w (es.length + xs.length) es.length e - (es.length + xs.length))) e))
    (cur := os.toArray ++ us.toArray ++ Builtin.zeroCells z.cells (grownCap w (es.length + xs.length) es.length e - (es.length + xs.length))) (t := e) (cp := grownCap w (es.length + xs.length) es.length e) hFO ?_ (by simpa using hge) ?_ hcm
    ⟨rfl, rfl, rfl, by simp, fun k hk _ => heap_alloc_old w.drew _ k hk⟩ (heap_alloc_new w.drew _)
  · obtain ⟨g', h1, h2, h3⟩ := hown
    simp only [List.length_append] at h3
    exact ⟨_, _, g', hr, h1, h2, h3⟩
  · simp only [Array.size_append, List.size_toArray, size_zeroCells, hzs, hF.size, hO.size, ← Nat.add_mul]
    congr 1
    omega
  · rw [← hFO.size]
    simp only [Array.toList_append, List.append_assoc]
    rw [← List.append_assoc, List.take_left]

/-- the row may lie in the same block under another number -/
theorem own_moved (S : Sim base w0 g H w) {b y : Nat} {ob : AObj} {es : List (List AV)} {us : List Value} {cur : Array Value} {t : TypeId} {k cp : Nat} (hb : H[b]? = some ob) (hn : ob ≠ .dead) (hy : g.ph b = some y)
    (hF : FRel g k es us) (hs : cur.size = cp * k) (hl : es.length ≤ cp) (ht : cur.toList.take (es.length * k) = us) (hm : cp ≤ maxLen) (hg : w.grownBy w' (some y)) (hx : w'.heap[y]? = some (.cells cur t (0, 0))) :
    ∃ g', g.le g' ∧ Sim base w0 g' (H.set b .dead ++ [.cells es t]) w' ∧ R g' (.msl H.length 0 es.length) (.slice (some ⟨y, 0, none⟩) es.length cp) := by
  have S' := S.turn (ob' := .dead) hb hn hy hg hx (.dead _)
  have hlen : (H.set b .dead).length = H.length := by simp
  have hle : g.le (g.phAdd H.length y k cp) := Gh.phAdd_le S.fresh
  refine ⟨_, hle, ?_, ?_⟩
  · have := S'.push (x := y) (k := k) (c := cp) (ob := .cells es t) (S.pos b y hy).1 (Nat.lt_of_lt_of_le (S.pos b y hy).2 hg.size) hx (S.sep b y ob hb hn hy).1 (S.sep b y ob hb hn hy).2
      (fun c oc hc hnc hyc => ?_) ?_
    · simpa [hlen] using this
    · rw [List.getElem?_set] at hc
      split at hc
      · split at hc
        · cases hc; exact hnc rfl
        · cases hc
      · rename_i hne
        exact hne (S.inj b c y ob oc hb hn hc hnc hy hyc)
    · rw [hlen]
      exact (hF.mono hle).orel hs hl ht
  · have : R (g.phAdd H.length y k cp) (.msl H.length 0 es.length) (.slice (some ⟨y, 0 * (g.phAdd H.length y k cp).ks H.length, none⟩) es.length cp) :=
      .msl (by simp [Gh.phAdd]) hl (by simp [Gh.phAdd]) hm
    simpa using this

theorem append_own (S : Sim base w0 g H w) (ht : P.underlying t = some (.slice e)) (hi : P.info? e = some inf) (hz : inf.zero = some z) (hzs : z.cells.size = inf.size) (hk : 0 < inf.size)
    {b len : Nat} {es : List (List AV)} {s : Value} (hs : R g (.msl b 0 len) s) (hb : H[b]? = some (.cells es e)) (hfit : len ≤ es.length) (h0 : 0 < es.length) (hlen : es.all (fun e => e.length == inf.size) = true)
    (hx : Src w g inf.size xs x) (hc : xs.all (fun e => e.all AV.isCell) = true) (hm : len + xs.length ≤ maxLen) (hbytes : (len + xs.length) * inf.bytes ≤ 140737488355328) :
    ∃ v w' g', (Builtin.append_ #[t, t] ty #[s, x]).run P w = .ok v w' ∧ g.le g' ∧ Sim base w0 g' (H.set b .dead ++ [.cells (es.take len ++ xs) e]) w' ∧ R g' (.msl H.length 0 (len + xs.length)) v := by
  obtain ⟨ad, c, us, rfl, hF, hus⟩ := hx.at_
  obtain ⟨y, cap, cur, rfl, hy, hks, hlc, hcc, hcm, hw, hcur, hO⟩ := msl_flat S hs hb (by omega) hlen h0
  simp only [Nat.zero_mul, List.drop_zero] at hO ⊢
  have hcp : g.cp b = cap := by omega
  rw [hcp] at hcur
  have hFO := hO.append hF
  have hlt : (es.take len ++ xs).length = len + xs.length := by simp; omega
  have h1 := hF.one hc hk
  by_cases hroom : len + xs.length ≤ cap
  · have e1 := Nat.mul_le_mul_right inf.size hroom
    have e2 := Nat.add_mul len xs.length inf.size
    have hr := run_append_room (P := P) w t ty e inf ht hi y len cap cur hw ad xs.length c us hF.size hus h1 hroom (by rw [hF.size]; omega)
    obtain ⟨g', h1, h2, h3⟩ := own_moved S hb (by simp) hy (w' := w.setRow y (cur.toList.take (len * inf.size) ++ us ++ cur.toList.drop (len * inf.size + us.length)).toArray) (t := e)
      (cur := (cur.toList.take (len * inf.size) ++ us ++ cur.toList.drop (len * inf.size + us.length)).toArray) (cp := cap) hFO
      (by simp only [List.size_toArray, List.length_append, List.length_take, List.length_drop, Array.length_toList, hF.size]; omega) (by rw [hlt]; exact hroom)
      (by rw [← hFO.size]; exact List.take_left) hcm ⟨rfl, rfl, rfl, by simp [World.setRow], fun k _ hk => setRow_other w y k _ (fun e => hk (by simp [e]))⟩ (setRow_heap w y cur _ e _ hw)
    rw [hlt] at h3
    exact ⟨_, _, g', hr, h1, h2, h3⟩
  · have hr := run_append_grow (P := P) w t ty e inf z ht hi hz ⟨y, 0, none⟩ len cap (cur.toList.take (len * inf.size))
      (by rw [hO.size, List.length_take, Nat.min_eq_left hfit]) (fun j u hu => by
        rw [List.getElem?_take] at hu
        split at hu
        · rw [add_none, Nat.zero_add, cell_of_cells hw]; simpa using hu
        · cases hu) ad xs.length c us hF.size hus (by omega) (by simp only [maxLen] at hm; omega) (growslice_fits (by omega) hbytes)
    have hge := grownCap_ge w (len + xs.length) cap e
    have hcm' := grownCap_le_maxLen w (len + xs.length) cap e hm
    have S' := S.dead b
    have hown := own_new S' (w' := w.drew.alloc (.cells ((cur.toList.take (len * inf.size)).toArray ++ us.toArray ++ Builtin.zeroCells z.cells (grownCap w (len + xs.length) cap e - (len + xs.length))) e))
      (cur := (cur.toList.take (len * inf.size)).toArray ++ us.toArray ++ Builtin.zeroCells z.cells (grownCap w (len + xs.length) cap e - (len + xs.length))) (t := e) (cp := grownCap w (len + xs.length) cap e) hFO ?_ (by rw [hlt]; exact hge) ?_ hcm'
      ⟨rfl, rfl, rfl, by simp, fun k hk _ => heap_alloc_old w.drew _ k hk⟩ (heap_alloc_new w.drew _)
    · obtain ⟨g', h1, h2, h3⟩ := hown
      rw [hlt] at h3
      simp only [List.length_set] at h3
      exact ⟨_, _, g', hr, h1, h2, h3⟩
    · have := hO.size
      simp only [List.length_take] at this
      rw [show min len es.length = len by omega] at this
      simp only [Array.size_append, List.size_toArray, List.length_take, size_zeroCells, hzs, hF.size, this, ← Nat.add_mul]
      congr 1
      omega
    · rw [← hFO.size]
      simp only [Array.toList_append, List.append_assoc]
      rw [← List.append_assoc, List.take_left]

end append

end Go.Proofs.Ytphfdbmbdaninaa.Ab
