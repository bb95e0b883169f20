/- The abstract values of this seat's proofs, what relates them to the machine's values, and what relates an abstract heap to a world. How a world may turn while an abstract heap goes on telling it. The operations on abstract values, each with the reason why the machine does the same: those that make no call. Stores, addresses of fields and elements, composite values. Composite values, made slices, slices of slices, appends. Slices: literals, made ones, slices of slices, appends. Slices that are made, literals of slices, slices of slices. '==' of structs, as one Bool of the cells' equalities. One operation: what it does to abstract values (stepA), and that the machine does so. Maps with integer keys. stepA: one operation that makes no call of a Go function. stepA is what the machine does. -/
import Derived.RangeFuncCalls
import Derived.RangeFuncLeaves
import Derived.Below
import Derived.WalkKit
import Derived.MapKept
import Derived.Laws.StructEq
import Derived.Carry
namespace Go.Proofs.Ytdmgljlabigljaa.Ab
open Go Go.RowKit

/-- abstract values -/
inductive AV where
  | val (v : Value)
  | rptr (cs : List AV) (off : Nat)
  | mptr (b i off : Nat)
  | rsl (es : List (List AV)) (exact : Bool)
  | msl (b off len : Nat)
  | fn (f : Fn) (cap : List AV)
  | mth (f : FuncId) (pre : List AV)
  | mp (b : Nat)
  | agg (cs : List AV)
  | tup (cs : List AV)

instance : Inhabited AV := ⟨.val undef⟩

/-- what is known of memory that never turns any more (fz), and where own blocks lie (ph), how many cells an element has (ks), for how many elements there is room (cp) -/
structure Gh where
  fz : Nat → Nat → Option Value
  ph : Nat → Option Nat
  ks : Nat → Nat
  cp : Nat → Nat
  mr : Nat → Prop

inductive R (g : Gh) : AV → Value → Prop
  | val (v : Value) : R g (.val v) v
  | rptr {cs : List AV} {off b o : Nat} (vs : Nat → Value) (hf : ∀ i, i < cs.length → g.fz b (o + i) = some (vs i))
      (hr : ∀ (i : Nat) (c : AV), cs[i]? = some c → R g c (vs i)) : R g (.rptr cs off) (.pointer (some ⟨b, o + off, none⟩))
  | mptr {b i off x : Nat} (h : g.ph b = some x) : R g (.mptr b i off) (.pointer (some ⟨x, i * g.ks b + off, none⟩))
  | rsl {es : List (List AV)} {ex : Bool} {b o k n cap : Nat} (vs : Nat → Nat → Value) (hn : n = es.length) (hl : n ≤ cap) (hc : ex = true → cap = n) (hm : cap ≤ maxLen)
      (hk : ∀ (i : Nat) (e : List AV), es[i]? = some e → e.length = k) (hf : ∀ i j, i < es.length → j < k → g.fz b (o + i * k + j) = some (vs i j))
      (hr : ∀ (i : Nat) (e : List AV) (j : Nat) (c : AV), es[i]? = some e → e[j]? = some c → R g c (vs i j)) : R g (.rsl es ex) (.slice (some ⟨b, o, none⟩) n cap)
  | rnil {ex : Bool} (a : Option Addr) : R g (.rsl [] ex) (.slice a 0 0)
  | msl {b off len x cap : Nat} (h : g.ph b = some x) (hl : len ≤ cap) (hc : off + cap = g.cp b) (hm : cap ≤ maxLen) :
      R g (.msl b off len) (.slice (some ⟨x, off * g.ks b, none⟩) len cap)
  | fn {f : Fn} {cap : List AV} {vs : Array Value} (hy : ∀ l, f ≠ .yield l) (hl : cap.length = vs.size) (hr : ∀ (i : Nat) (c : AV) (v : Value), cap[i]? = some c → vs[i]? = some v → R g c v) : R g (.fn f cap) (.func f #[] vs)
  | mth {f : FuncId} {pre : List AV} {vs : Array Value} (hl : pre.length = vs.size) (hr : ∀ (i : Nat) (c : AV) (v : Value), pre[i]? = some c → vs[i]? = some v → R g c v) : R g (.mth f pre) (.func (.func f) vs #[])
  | yld {b l : Nat} (h : g.ph b = some l) : R g (.fn (.yield b) []) (.func (.yield l) #[] #[])
  | mp {b x : Nat} (h : g.ph b = some x) : R g (.mp b) (.map (some x))
  | agg {cs : List AV} {vs : Array Value} (hl : cs.length = vs.size) (hr : ∀ (i : Nat) (c : AV) (v : Value), cs[i]? = some c → vs[i]? = some v → R g c v) : R g (.agg cs) (.agg vs)
  | tup {cs : List AV} {vs : Array Value} (hl : cs.length = vs.size) (hr : ∀ (i : Nat) (c : AV) (v : Value), cs[i]? = some c → vs[i]? = some v → R g c v) : R g (.tup cs) (.tuple vs)

/-- g' knows all that g knows -/
structure Gh.le (g g' : Gh) : Prop where
  fz : ∀ b o v, g.fz b o = some v → g'.fz b o = some v
  ph : ∀ b x, g.ph b = some x → g'.ph b = some x
  ks : ∀ b x, g.ph b = some x → g'.ks b = g.ks b
  cp : ∀ b x, g.ph b = some x → g'.cp b = g.cp b
  mr : ∀ r, g.mr r → g'.mr r

theorem Gh.le.refl (g : Gh) : g.le g := ⟨fun _ _ _ h => h, fun _ _ h => h, fun _ _ _ => rfl, fun _ _ _ => rfl, fun _ h => h⟩
theorem Gh.le.trans {a b c : Gh} (h : a.le b) (k : b.le c) : a.le c :=
  ⟨fun x o v hx => k.fz x o v (h.fz x o v hx), fun x y hx => k.ph x y (h.ph x y hx), fun x y hx => (k.ks x y (h.ph x y hx)).trans (h.ks x y hx),
   fun x y hx => (k.cp x y (h.ph x y hx)).trans (h.cp x y hx), fun r hr => k.mr r (h.mr r hr)⟩

theorem R.mono4 {g g' : Gh} (hfz : ∀ b o v, g.fz b o = some v → g'.fz b o = some v) (hph : ∀ b x, g.ph b = some x → g'.ph b = some x) (hks : ∀ b x, g.ph b = some x → g'.ks b = g.ks b)
    (hcp : ∀ b x, g.ph b = some x → g'.cp b = g.cp b) {a : AV} {v : Value} (h : R g a v) : R g' a v := by
  induction h with
  | val v => exact .val v
  | rptr vs hf _ ih => exact .rptr vs (fun i hi => hfz _ _ _ (hf i hi)) ih
  | mptr h => rw [← hks _ _ h]; exact .mptr (hph _ _ h)
  | rsl vs hn hl hc hm hk hf _ ih => exact .rsl vs hn hl hc hm hk (fun i j hi hj => hfz _ _ _ (hf i j hi hj)) ih
  | rnil a => exact .rnil a
  | msl h hl hc hm => rw [← hks _ _ h]; exact .msl (hph _ _ h) hl (by rw [hcp _ _ h]; exact hc) hm
  | fn hy hl _ ih => exact .fn hy hl ih
  | mth hl _ ih => exact .mth hl ih
  | yld h => exact .yld (hph _ _ h)
  | mp h => exact .mp (hph _ _ h)
  | agg hl _ ih => exact .agg hl ih
  | tup hl _ ih => exact .tup hl ih

theorem R.mono {g g' : Gh} (hg : g.le g') {a : AV} {v : Value} (h : R g a v) : R g' a v := h.mono4 hg.fz hg.ph hg.ks hg.cp

/-- abstract objects -/
inductive AObj where
  | cells (es : List (List AV)) (t : TypeId)
  | loop (st : LoopState) (pend : Option Code) (f : FuncId) (T : Nat → AV) (n : Nat) (params : Array Tmp) (assign body : Code) (defers : Nat)
  | amap (es : List (AV × AV))
  | amapC (es : List (AV × AV)) (ss : List Nat) (c : Nat)
  | miter (b : Nat) (ss : List Nat) (c : Nat) (seen : List Nat)
  | siter (s : ByteArray) (pos : Nat)
  | dead

abbrev Env := Nat → AV

structure TRel (g : Gh) (n : Nat) (T : Env) (tmps : Array Value) : Prop where
  size : tmps.size = n
  slot : ∀ t, R g (T t) (tmps.getD t undef)

theorem TRel.mono {g g' : Gh} {n : Nat} {T : Env} {tmps : Array Value} (h : TRel g n T tmps) (hg : g.le g') : TRel g' n T tmps :=
  ⟨h.size, fun t => (h.slot t).mono hg⟩

inductive ORel (g : Gh) (k cp : Nat) : AObj → Obj → Prop
  | cells {es : List (List AV)} {t : TypeId} {cur : Array Value} (hs : cur.size = cp * k) (hl : es.length ≤ cp) (hk : ∀ (i : Nat) (e : List AV), es[i]? = some e → e.length = k)
      (hr : ∀ (i : Nat) (e : List AV) (j : Nat) (c : AV), es[i]? = some e → e[j]? = some c → ∃ v, cur[i * k + j]? = some v ∧ R g c v) : ORel g k cp (.cells es t) (.cells cur t (0, 0))
  | loop {st : LoopState} {pend : Option Code} {f f' : FuncId} {T : Env} {n : Nat} {params : Array Tmp} {assign body : Code} {defers defers' : Nat} {tmps : Array Value} (h : TRel g n T tmps) :
      ORel g k cp (.loop st pend f T n params assign body defers) (.loop { state := st, pending := pend, fn := f', tmps, params, assign, body, defers := defers' })
  | amap {es : List (AV × AV)} {ms : Array MapEntry} {clock : Nat} (hl : es.length = ms.size) (hr : ∀ (i : Nat) (e : AV × AV) (m : MapEntry), es[i]? = some e → ms[i]? = some m → R g e.1 m.key ∧ R g e.2 m.val) (hs : Go.MapKept.Stamped ms clock) :
      ORel g k cp (.amap es) (.map ms clock)
  | amapC {es : List (AV × AV)} {ss : List Nat} {ms : Array MapEntry} {clock : Nat} (hl : es.length = ms.size) (hr : ∀ (i : Nat) (e : AV × AV) (m : MapEntry), es[i]? = some e → ms[i]? = some m → R g e.1 m.key ∧ R g e.2 m.val) (hs : Go.MapKept.Stamped ms clock)
      (hss : ms.toList.map (·.born) = ss) : ORel g k cp (.amapC es ss clock) (.map ms clock)
  | miter {b x c : Nat} {ss seen : List Nat} (hb : g.ph b = some x) : ORel g k cp (.miter b ss c seen) (.mapIter (some x) c (seen.filterMap fun i => ss[i]?).toArray c)
  | siter (s : ByteArray) (pos : Nat) : ORel g k cp (.siter s pos) (.stringIter s pos)
  | dead (o : Obj) : ORel g k cp .dead o

theorem ORel.mono {g g' : Gh} (hg : g.le g') {k cp : Nat} {a : AObj} {o : Obj} (h : ORel g k cp a o) : ORel g' k cp a o := by
  cases h with
  | cells hs hl hk hr => exact .cells hs hl hk (fun i e j c he hc => let ⟨v, h1, h2⟩ := hr i e j c he hc; ⟨v, h1, h2.mono hg⟩)
  | loop h => exact .loop (h.mono hg)
  | amap hl hr hs => exact .amap hl (fun i e m he hm => ⟨(hr i e m he hm).1.mono hg, (hr i e m he hm).2.mono hg⟩) hs
  | amapC hl hr hs hss => exact .amapC hl (fun i e m he hm => ⟨(hr i e m he hm).1.mono hg, (hr i e m he hm).2.mono hg⟩) hs hss
  | miter hb => exact .miter (hg.ph _ _ hb)
  | siter s p => exact .siter s p
  | dead => exact .dead _

/-- the same but for the marks -/
structure Gh.same (g g' : Gh) : Prop where
  fz : g'.fz = g.fz
  ph : g'.ph = g.ph
  ks : g'.ks = g.ks
  cp : g'.cp = g.cp

theorem R.same {g g' : Gh} (h : g.same g') {a : AV} {v : Value} (hr : R g a v) : R g' a v :=
  hr.mono4 (fun _ _ _ k => by rw [h.fz]; exact k) (fun _ _ k => by rw [h.ph]; exact k) (fun _ _ _ => by rw [h.ks]) (fun _ _ _ => by rw [h.cp])

theorem TRel.same {g g' : Gh} (h : g.same g') {n : Nat} {T : Env} {tmps : Array Value} (k : TRel g n T tmps) : TRel g' n T tmps := ⟨k.size, fun t => (k.slot t).same h⟩

theorem ORel.same {g g' : Gh} (h : g.same g') {k cp : Nat} {a : AObj} {o : Obj} (hr : ORel g k cp a o) : ORel g' k cp a o := by
  cases hr with
  | cells hs hl hk hr => exact .cells hs hl hk (fun i e j c he hc => let ⟨v, h1, h2⟩ := hr i e j c he hc; ⟨v, h1, h2.same h⟩)
  | loop h' => exact .loop (h'.same h)
  | amap hl hr hs => exact .amap hl (fun i e m he hm => ⟨(hr i e m he hm).1.same h, (hr i e m he hm).2.same h⟩) hs
  | amapC hl hr hs hss => exact .amapC hl (fun i e m he hm => ⟨(hr i e m he hm).1.same h, (hr i e m he hm).2.same h⟩) hs hss
  | miter hb => exact .miter (by rw [h.ph]; exact hb)
  | siter s p => exact .siter s p
  | dead => exact .dead _

abbrev Hp := List AObj

/-- a world as an abstract heap tells it -/
structure Sim (base : Nat) (w0 : World) (g : Gh) (H : Hp) (w : World) : Prop where
  below : Below base w0 w
  low : base ≤ w.heap.size
  fz : ∀ b o v, g.fz b o = some v → w.cell? ⟨b, o, none⟩ = some v
  dom : ∀ b x, g.ph b = some x → b < H.length
  pos : ∀ b x, g.ph b = some x → base ≤ x ∧ x < w.heap.size
  sep : ∀ b x ob, H[b]? = some ob → ob ≠ .dead → g.ph b = some x → (∀ o, g.fz x o = none) ∧ ¬ g.mr x
  inj : ∀ b c x ob oc, H[b]? = some ob → ob ≠ .dead → H[c]? = some oc → oc ≠ .dead → g.ph b = some x → g.ph c = some x → b = c
  obj : ∀ b ob, H[b]? = some ob → ob ≠ .dead → ∃ x o, g.ph b = some x ∧ w.heap[x]? = some o ∧ ORel g (g.ks b) (g.cp b) ob o
  marks : ∀ r, g.mr r → base ≤ r ∧ r < w.heap.size ∧ w.heap[r]? = some (.deferred (some []))

theorem dead_ne (ob : AObj) : ob = .dead ∨ ob ≠ .dead := by
  cases ob <;> simp

end Go.Proofs.Ytdmgljlabigljaa.Ab

namespace Go.Proofs.Ytdmgljlabigljaa.Ab
open Go Go.RowKit

variable {base : Nat} {w0 w w' : World} {g : Gh} {H : Hp}

theorem Sim.size0 (S : Sim base w0 g H w) : w0.heap.size ≤ w.heap.size := S.below.size

theorem Sim.fzlt (S : Sim base w0 g H w) {b o : Nat} {v : Value} (h : g.fz b o = some v) : b < w.heap.size :=
  World.block_lt_of_cell? w ⟨b, o, none⟩ (S.fz b o v h)

theorem grownBy_below {row : Option Nat} (S : Sim base w0 g H w) (h : w.grownBy w' row) (hr : ∀ x, row = some x → base ≤ x) : Below base w0 w' :=
  S.below.trans ⟨h.os, h.tape, h.output, h.size, fun k hk => h.block k (Nat.lt_of_lt_of_le hk S.low) (fun e => by have := hr k e.symm; omega)⟩

theorem Sim.grow (S : Sim base w0 g H w) (h : w.grownBy w' none) : Sim base w0 g H w' where
  below := grownBy_below S h (fun x e => by cases e)
  low := Nat.le_trans S.low h.size
  fz b o v hv := (World.cell?_of_block (a := ⟨b, o, none⟩) (h.block b (S.fzlt hv) (by simp))).trans (S.fz b o v hv)
  dom := S.dom
  pos b x hx := ⟨(S.pos b x hx).1, Nat.lt_of_lt_of_le (S.pos b x hx).2 h.size⟩
  sep := S.sep
  inj := S.inj
  obj b ob hb hn := by
    obtain ⟨x, o, h1, h2, h3⟩ := S.obj b ob hb hn
    exact ⟨x, o, h1, (h.block x (S.pos b x h1).2 (by simp)).trans h2, h3⟩
  marks r hr := by
    obtain ⟨h1, h2, h3⟩ := S.marks r hr
    exact ⟨h1, Nat.lt_of_lt_of_le h2 h.size, (h.block r h2 (by simp)).trans h3⟩

theorem Sim.drew (S : Sim base w0 g H w) : Sim base w0 g H w.drew := S.grow ⟨rfl, rfl, rfl, Nat.le_refl _, fun _ _ _ => rfl⟩

theorem Sim.dead (S : Sim base w0 g H w) (b : Nat) : Sim base w0 g (H.set b .dead) w where
  below := S.below
  low := S.low
  fz := S.fz
  dom c x hx := by simpa using S.dom c x hx
  pos := S.pos
  sep c x ob hc hn := by
    rw [List.getElem?_set] at hc
    split at hc
    · split at hc
      · cases hc; exact absurd rfl hn
      · cases hc
    · exact S.sep c x ob hc hn
  inj c d x ob oc hc hn hd hn' := by
    rw [List.getElem?_set] at hc hd
    split at hc
    · split at hc
      · cases hc; exact absurd rfl hn
      · cases hc
    · split at hd
      · split at hd
        · cases hd; exact absurd rfl hn'
        · cases hd
      · exact S.inj c d x ob oc hc hn hd hn'
  obj c ob hc hn := by
    rw [List.getElem?_set] at hc
    split at hc
    · split at hc
      · cases hc; exact absurd rfl hn
      · cases hc
    · exact S.obj c ob hc hn
  marks := S.marks

/-- one own block turns -/
theorem Sim.turn (S : Sim base w0 g H w) {b x : Nat} {ob ob' : AObj} {o' : Obj} (hb : H[b]? = some ob) (hn : ob ≠ .dead) (hx : g.ph b = some x)
    (h : w.grownBy w' (some x)) (ho : w'.heap[x]? = some o') (hr : ORel g (g.ks b) (g.cp b) ob' o') : Sim base w0 g (H.set b ob') w' where
  below := grownBy_below S h (fun y e => by cases e; exact (S.pos b x hx).1)
  low := Nat.le_trans S.low h.size
  fz c o v hv := by
    refine (World.cell?_of_block (a := ⟨c, o, none⟩) (h.block c (S.fzlt hv) (fun e => ?_))).trans (S.fz c o v hv)
    cases e
    have := (S.sep b x ob hb hn hx).1 o
    rw [hv] at this
    cases this
  dom c y hy := by simpa using S.dom c y hy
  pos c y hy := ⟨(S.pos c y hy).1, Nat.lt_of_lt_of_le (S.pos c y hy).2 h.size⟩
  sep c y oc hc hn' hy := by
    rw [List.getElem?_set] at hc
    split at hc
    · rename_i e; subst e; exact S.sep b y ob hb hn hy
    · exact S.sep c y oc hc hn' hy
  inj c d y oc od hc hnc hd hnd hyc hyd := by
    rw [List.getElem?_set] at hc hd
    split at hc
    · rename_i e; subst e
      split at hd
      · assumption
      · exact S.inj b d y ob od hb hn hd hnd hyc hyd
    · split at hd
      · rename_i e; subst e; exact S.inj c b y oc ob hc hnc hb hn hyc hyd
      · exact S.inj c d y oc od hc hnc hd hnd hyc hyd
  obj c oc hc hnc := by
    rw [List.getElem?_set] at hc
    split at hc
    · rename_i e; subst e
      split at hc
      · cases hc; exact ⟨x, o', hx, ho, hr⟩
      · cases hc
    · rename_i hne
      obtain ⟨y, oy, h1, h2, h3⟩ := S.obj c oc hc hnc
      refine ⟨y, oy, h1, (h.block y (S.pos c y h1).2 (fun e => ?_)).trans h2, h3⟩
      cases e
      exact hne (S.inj b c x ob oc hb hn hc hnc hx h1)
  marks r hr' := by
    obtain ⟨h1, h2, h3⟩ := S.marks r hr'
    refine ⟨h1, Nat.lt_of_lt_of_le h2 h.size, (h.block r h2 (fun e => ?_)).trans h3⟩
    cases e
    exact (S.sep b x ob hb hn hx).2 hr'

/-- a further own block -/
def Gh.phAdd (g : Gh) (b x k c : Nat) : Gh :=
  { g with ph := fun i => if i = b then some x else g.ph i, ks := fun i => if i = b then k else g.ks i, cp := fun i => if i = b then c else g.cp i }

theorem Gh.phAdd_le {b x k c : Nat} (h : g.ph b = none) : g.le (g.phAdd b x k c) where
  fz _ _ _ h := h
  ph i y hy := by
    show (if i = b then some x else g.ph i) = some y
    rw [if_neg (fun e => by subst e; rw [h] at hy; cases hy)]; exact hy
  ks i y hy := by
    show (if i = b then k else g.ks i) = g.ks i
    rw [if_neg (fun e => by subst e; rw [h] at hy; cases hy)]
  cp i y hy := by
    show (if i = b then c else g.cp i) = g.cp i
    rw [if_neg (fun e => by subst e; rw [h] at hy; cases hy)]
  mr _ h := h

theorem Sim.fresh (S : Sim base w0 g H w) : g.ph H.length = none := by
  cases h : g.ph H.length with
  | none => rfl
  | some x => exact absurd (S.dom _ _ h) (Nat.lt_irrefl _)

/-- the new block x is told by the abstract number H.length; nothing alive lies in x -/
theorem Sim.push (S : Sim base w0 g H w) {x k c : Nat} {ob : AObj} {o : Obj} (hx : base ≤ x) (hx' : x < w.heap.size) (ho : w.heap[x]? = some o)
    (hfz : ∀ o, g.fz x o = none) (hmk : ¬ g.mr x) (hal : ∀ b ob, H[b]? = some ob → ob ≠ .dead → g.ph b ≠ some x)
    (hr : ORel (g.phAdd H.length x k c) k c ob o) : Sim base w0 (g.phAdd H.length x k c) (H ++ [ob]) w := by
  have hle : g.le (g.phAdd H.length x k c) := Gh.phAdd_le S.fresh
  have hph : ∀ b y, (g.phAdd H.length x k c).ph b = some y → (b = H.length ∧ y = x) ∨ (b ≠ H.length ∧ g.ph b = some y) := by
    intro b y hy
    change (if b = H.length then some x else g.ph b) = some y at hy
    split at hy
    · cases hy; exact .inl ⟨by assumption, rfl⟩
    · exact .inr ⟨by assumption, hy⟩
  have hold : ∀ b ob', (H ++ [ob])[b]? = some ob' → b ≠ H.length → H[b]? = some ob' := by
    intro b ob' hb hne
    have hlt : b < (H ++ [ob]).length := (List.getElem?_eq_some_iff.1 hb).1
    rw [List.getElem?_append_left (by simp at hlt; omega)] at hb
    exact hb
  exact
  { below := S.below
    low := S.low
    fz := S.fz
    dom := fun b y hy => by
      rcases hph b y hy with ⟨rfl, _⟩ | ⟨_, h⟩
      · simp
      · have := S.dom b y h; simp; omega
    pos := fun b y hy => by
      rcases hph b y hy with ⟨_, rfl⟩ | ⟨_, h⟩
      · exact ⟨hx, hx'⟩
      · exact S.pos b y h
    sep := fun b y ob' hb hn hy => by
      rcases hph b y hy with ⟨_, rfl⟩ | ⟨hne, h⟩
      · exact ⟨hfz, hmk⟩
      · exact S.sep b y ob' (hold b ob' hb hne) hn h
    inj := fun b d y ob1 ob2 hb hn hd hn' hy hy' => by
      rcases hph b y hy with ⟨rfl, rfl⟩ | ⟨hne, h⟩
      · rcases hph d y hy' with ⟨rfl, _⟩ | ⟨hne', h'⟩
        · rfl
        · exact absurd h' (hal d ob2 (hold d ob2 hd hne') hn')
      · rcases hph d y hy' with ⟨rfl, rfl⟩ | ⟨hne', h'⟩
        · exact absurd h (hal b ob1 (hold b ob1 hb hne) hn)
        · exact S.inj b d y ob1 ob2 (hold b ob1 hb hne) hn (hold d ob2 hd hne') hn' h h'
    obj := fun b ob' hb hn => by
      by_cases hne : b = H.length
      · subst hne
        simp at hb
        subst hb
        exact ⟨x, o, by simp [Gh.phAdd], ho, by simpa [Gh.phAdd] using hr⟩
      · obtain ⟨y, oy, h1, h2, h3⟩ := S.obj b ob' (hold b ob' hb hne) hn
        refine ⟨y, oy, hle.ph _ _ h1, h2, ?_⟩
        rw [hle.ks _ _ h1, hle.cp _ _ h1]
        exact h3.mono hle
    marks := S.marks }

/-- a new block that is told as an own one -/
theorem Sim.alloc (S : Sim base w0 g H w) {k c : Nat} {ob : AObj} {o : Obj} (hg : w.grownBy w' none) (hx : w'.heap[w.heap.size]? = some o)
    (hr : ORel (g.phAdd H.length w.heap.size k c) k c ob o) : Sim base w0 (g.phAdd H.length w.heap.size k c) (H ++ [ob]) w' := by
  have S' := S.grow hg
  refine S'.push S.low (Array.getElem?_eq_some_iff.1 hx).1 hx (fun o => ?_) (fun h => ?_) (fun b ob _ _ h => ?_) hr
  · cases h : g.fz w.heap.size o with
    | none => rfl
    | some v => exact absurd (S.fzlt h) (Nat.lt_irrefl _)
  · exact absurd (S.marks _ h).2.1 (Nat.lt_irrefl _)
  · exact absurd (S.pos b _ h).2 (Nat.lt_irrefl _)

/-- a new row that is never written again -/
def Gh.fzAdd (g : Gh) (x : Nat) (cs : Array Value) : Gh := { g with fz := fun b o => if b = x then cs[o]? else g.fz b o }

theorem Sim.fzAdd_le (S : Sim base w0 g H w) (cs : Array Value) : g.le (g.fzAdd w.heap.size cs) where
  fz b o v h := by
    show (if b = w.heap.size then cs[o]? else g.fz b o) = some v
    rw [if_neg (fun e => by subst e; exact absurd (S.fzlt h) (Nat.lt_irrefl _))]; exact h
  ph _ _ h := h
  ks _ _ _ := rfl
  cp _ _ _ := rfl
  mr _ h := h

theorem Sim.allocFz (S : Sim base w0 g H w) (cs : Array Value) (t : TypeId) : Sim base w0 (g.fzAdd w.heap.size cs) H (w.alloc (.cells cs t)) := by
  have hg : w.grownBy (w.alloc (.cells cs t)) none := World.grownBy_alloc w _ none
  have S' := S.grow hg
  have hle := S.fzAdd_le cs
  exact
  { below := S'.below
    low := S'.low
    fz := fun b o v h => by
      change (if b = w.heap.size then cs[o]? else g.fz b o) = some v at h
      split at h
      · rename_i e; subst e; rw [World.cell?_alloc_new]; exact h
      · exact S'.fz b o v h
    dom := S'.dom
    pos := S'.pos
    sep := fun b x ob hb hn hx => by
      refine ⟨fun o => ?_, (S'.sep b x ob hb hn hx).2⟩
      show (if x = w.heap.size then cs[o]? else g.fz x o) = none
      rw [if_neg (fun e => by subst e; exact absurd (S.pos b _ hx).2 (Nat.lt_irrefl _))]
      exact (S'.sep b x ob hb hn hx).1 o
    inj := S'.inj
    obj := fun b ob hb hn => let ⟨x, o, h1, h2, h3⟩ := S'.obj b ob hb hn; ⟨x, o, h1, h2, h3.mono hle⟩
    marks := S'.marks }

/-- an own row of cells becomes one that never turns again: its abstract block dies -/
def Gh.fzOwn (g : Gh) (x n : Nat) (cs : Array Value) : Gh := { g with fz := fun b o => if b = x then (if o < n then cs[o]? else none) else g.fz b o }

theorem Sim.freeze_le (S : Sim base w0 g H w) {b x : Nat} {ob : AObj} (hb : H[b]? = some ob) (hn : ob ≠ .dead) (hx : g.ph b = some x) (n : Nat) (cs : Array Value) : g.le (g.fzOwn x n cs) where
  fz c o v h := by
    show (if c = x then _ else g.fz c o) = some v
    rw [if_neg (fun e => by subst e; rw [(S.sep b c ob hb hn hx).1 o] at h; cases h)]; exact h
  ph _ _ h := h
  ks _ _ _ := rfl
  cp _ _ _ := rfl
  mr _ h := h

theorem Sim.freeze (S : Sim base w0 g H w) {b x n : Nat} {ob : AObj} {cur : Array Value} {t : TypeId} (hb : H[b]? = some ob) (hn : ob ≠ .dead) (hx : g.ph b = some x)
    (ho : w.heap[x]? = some (.cells cur t (0, 0))) : Sim base w0 (g.fzOwn x n cur) (H.set b .dead) w := by
  have hle := S.freeze_le hb hn hx n cur
  have S' := S.dead b
  have hout : ∀ c oc, (H.set b .dead)[c]? = some oc → oc ≠ .dead → H[c]? = some oc ∧ c ≠ b := by
    intro c oc hc hnc
    rw [List.getElem?_set] at hc
    split at hc
    · split at hc
      · cases hc; exact absurd rfl hnc
      · cases hc
    · exact ⟨hc, fun e => by subst e; contradiction⟩
  exact
  { below := S'.below
    low := S'.low
    fz := fun c o v h => by
      change (if c = x then (if o < n then cur[o]? else none) else g.fz c o) = some v at h
      split at h
      · rename_i e; subst e
        split at h
        · simp [World.cell?, ho, h]
        · cases h
      · exact S'.fz c o v h
    dom := S'.dom
    pos := S'.pos
    sep := fun c y oc hc hnc hy => by
      obtain ⟨hc', hne⟩ := hout c oc hc hnc
      refine ⟨fun o => ?_, (S'.sep c y oc hc hnc hy).2⟩
      show (if y = x then _ else g.fz y o) = none
      rw [if_neg (fun e => by subst e; exact hne (S.inj c b y oc ob hc' hnc hb hn hy hx))]
      exact (S'.sep c y oc hc hnc hy).1 o
    inj := S'.inj
    obj := fun c oc hc hnc => let ⟨y, o, h1, h2, h3⟩ := S'.obj c oc hc hnc; ⟨y, o, h1, h2, h3.mono hle⟩
    marks := S'.marks }

/-- a block for a loop's deferred calls -/
def Gh.mkAdd (g : Gh) (x : Nat) : Gh := { g with mr := fun r => r = x ∨ g.mr r }

theorem Sim.mkAdd_le (x : Nat) : g.le (g.mkAdd x) := ⟨fun _ _ _ h => h, fun _ _ h => h, fun _ _ _ => rfl, fun _ _ _ => rfl, fun _ h => .inr h⟩

theorem Sim.allocMk (S : Sim base w0 g H w) : Sim base w0 (g.mkAdd w.heap.size) H (w.alloc (.deferred (some []))) := by
  have S' := S.grow (World.grownBy_alloc w (.deferred (some [])) none)
  have hle : g.le (g.mkAdd w.heap.size) := Sim.mkAdd_le _
  exact
  { below := S'.below
    low := S'.low
    fz := S'.fz
    dom := S'.dom
    pos := S'.pos
    sep := fun b x ob hb hn hx => ⟨(S'.sep b x ob hb hn hx).1, fun h => by
      rcases h with h | h
      · subst h; exact absurd (S.pos b _ hx).2 (Nat.lt_irrefl _)
      · exact (S'.sep b x ob hb hn hx).2 h⟩
    inj := S'.inj
    obj := fun c oc hc hnc => let ⟨y, o, h1, h2, h3⟩ := S'.obj c oc hc hnc; ⟨y, o, h1, h2, h3.mono hle⟩
    marks := fun r hr => by
      rcases hr with hr | hr
      · subst hr; exact ⟨S.low, by simp, heap_alloc_new w _⟩
      · exact S'.marks r hr }

end Go.Proofs.Ytdmgljlabigljaa.Ab

namespace Go.Proofs.Ytdmgljlabigljaa.Ab
open Go Go.RowKit

variable {base : Nat} {w0 w w' : World} {g : Gh} {H : Hp} {P : Program}

theorem add_none (b o n : Nat) : (⟨b, o, none⟩ : Addr).add n = ⟨b, o + n, none⟩ := by
  unfold Addr.add; split <;> simp_all

/-- the tree of an operation that asks the world nothing -/
def pureRun {α : Type} (P : Program) : Sem α → Option α
  | .pure a => some a
  | .program k => pureRun P (k P)
  | .mark _ k => pureRun P k
  | _ => none

theorem pureRun_run {α : Type} {s : Sem α} {a : α} (h : pureRun P s = some a) (w : World) : s.run P w = .ok a w := by
  induction s with
  | pure x => simp only [pureRun, Option.some.injEq] at h; subst h; rfl
  | program k ih => exact ih P h
  | mark m k ih => exact ih h
  | _ => simp [pureRun] at h

theorem pureRun_bind {α β : Type} (s : Sem α) (f : α → Sem β) : pureRun P (s >>= f) = (pureRun P s).bind fun a => pureRun P (f a) := by
  show pureRun P (s.bind f) = _
  induction s with
  | pure x => rfl
  | program k ih => exact ih P
  | mark m k ih => exact ih
  | _ => rfl

mutual
/-- a value without addresses of ours -/
def AV.flat : AV → Option Value
  | .val v => some v
  | .agg cs => (AV.flats cs).map fun vs => .agg vs.toArray
  | .tup cs => (AV.flats cs).map fun vs => .tuple vs.toArray
  | _ => none
def AV.flats : List AV → Option (List Value)
  | [] => some []
  | c :: cs => (AV.flat c).bind fun v => (AV.flats cs).map fun vs => v :: vs
end

theorem R.flat {g : Gh} {a : AV} {u : Value} (h : R g a u) : ∀ v, a.flat = some v → u = v := by
  induction h with
  | val v => intro v' h; simpa [AV.flat] using h
  | agg hl hr ih =>
    rename_i cs us
    intro v h
    simp only [AV.flat, Option.map_eq_some_iff] at h
    obtain ⟨vs, hvs, rfl⟩ := h
    have : us = vs.toArray := by
      apply flats_of' cs vs us hvs hl ih
    rw [this]
  | tup hl hr ih =>
    rename_i cs us
    intro v h
    simp only [AV.flat, Option.map_eq_some_iff] at h
    obtain ⟨vs, hvs, rfl⟩ := h
    have : us = vs.toArray := by
      apply flats_of' cs vs us hvs hl ih
    rw [this]
  | _ => intro v h; simp [AV.flat] at h
where
  flats_of' : ∀ (cs : List AV) (vs : List Value) (us : Array Value), AV.flats cs = some vs → cs.length = us.size →
    (∀ (i : Nat) (c : AV) (v : Value), cs[i]? = some c → us[i]? = some v → ∀ v', c.flat = some v' → v = v') → us = vs.toArray
  | [], vs, us, h, hl, _ => by
    simp only [AV.flats, Option.some.injEq] at h
    subst h
    apply Array.ext'
    have : us.size = 0 := by simpa using hl.symm
    exact List.eq_nil_of_length_eq_zero (by simpa using this)
  | c :: cs, vs, us, h, hl, hr => by
    simp only [AV.flats, Option.bind_eq_some_iff, Option.map_eq_some_iff] at h
    obtain ⟨v, hv, vs', hvs, rfl⟩ := h
    rcases us with ⟨us⟩
    cases us with
    | nil => simp at hl
    | cons u us =>
      have h0 := hr 0 c u (by simp) (by simp) v hv
      have := flats_of' cs vs' us.toArray hvs (by simpa using hl) (fun i d v hd hv => hr (i + 1) d v (by simpa using hd) (by simpa using hv))
      subst h0
      have e : us = vs' := by simpa using congrArg Array.toList this
      rw [e]

/-- the cells of a value -/
def AV.cells : AV → List AV
  | .agg cs => cs
  | .val v => v.cells.toList.map .val
  | a => [a]

structure RCells (g : Gh) (cs : List AV) (vs : Array Value) : Prop where
  size : cs.length = vs.size
  cell : ∀ (i : Nat) (c : AV) (v : Value), cs[i]? = some c → vs[i]? = some v → R g c v

theorem RCells.get {cs : List AV} {vs : Array Value} (h : RCells g cs vs) {i : Nat} {c : AV} (hc : cs[i]? = some c) : ∃ v, vs[i]? = some v ∧ R g c v := by
  have hi : i < vs.size := by rw [← h.size]; exact (List.getElem?_eq_some_iff.1 hc).1
  exact ⟨vs[i], by simp [hi], h.cell i c _ hc (by simp [hi])⟩

theorem RCells.mono {g' : Gh} (hg : g.le g') {cs : List AV} {vs : Array Value} (h : RCells g cs vs) : RCells g' cs vs := ⟨h.size, fun i c v hc hv => (h.cell i c v hc hv).mono hg⟩

theorem RCells.one {a : AV} {v : Value} (h : R g a v) : RCells g [a] #[v] :=
  ⟨rfl, fun i c u hc hu => by
    cases i with
    | zero => simp at hc hu; subst hc; subst hu; exact h
    | succ i => simp at hc⟩

theorem R.cells {a : AV} {v : Value} (h : R g a v) : RCells g a.cells v.cells := by
  cases h with
  | val v =>
    refine ⟨by simp [AV.cells], fun i c u hc hu => ?_⟩
    simp only [AV.cells, List.getElem?_map, Option.map_eq_some_iff, Array.getElem?_toList] at hc
    obtain ⟨x, hx, rfl⟩ := hc
    rw [hx] at hu
    cases hu
    exact .val _
  | agg hl hr => exact ⟨hl, hr⟩
  | rptr vs hf hr => exact RCells.one (.rptr vs hf hr)
  | mptr h => exact RCells.one (.mptr h)
  | rsl vs hn hl hc hm hk hf hr => exact RCells.one (.rsl vs hn hl hc hm hk hf hr)
  | rnil a => exact RCells.one (.rnil a)
  | msl h hl hc hm => exact RCells.one (.msl h hl hc hm)
  | fn hy hl hr => exact RCells.one (.fn hy hl hr)
  | mth hl hr => exact RCells.one (.mth hl hr)
  | yld h => exact RCells.one (.yld h)
  | mp h => exact RCells.one (.mp h)
  | tup hl hr => exact RCells.one (.tup hl hr)

/-! ### a new block of cells -/

theorem ORel.one {g : Gh} {cs : List AV} {vs : Array Value} {t : TypeId} (h : RCells g cs vs) : ORel g cs.length 1 (.cells [cs] t) (.cells vs t (0, 0)) := by
  refine .cells (by rw [h.size]; omega) (by simp) (fun i e he => ?_) (fun i e j c he hc => ?_)
  · cases i with
    | zero => simp at he; subst he; rfl
    | succ i => simp at he
  · cases i with
    | zero =>
      simp at he; subst he
      simpa using h.get hc
    | succ i => simp at he

/-- a boxed value: in a row that never turns -/
theorem box_fz (S : Sim base w0 g H w) {cs : List AV} {vs : Array Value} (h : RCells g cs vs) (t : TypeId) :
    ∃ g', g.le g' ∧ Sim base w0 g' H (w.alloc (.cells vs t)) ∧ R g' (.rptr cs 0) (.pointer (some ⟨w.heap.size, 0, none⟩)) := by
  refine ⟨_, S.fzAdd_le vs, S.allocFz vs t, ?_⟩
  have hle := S.fzAdd_le vs
  refine R.rptr (o := 0) (fun i => vs[i]?.getD undef) (fun i hi => ?_) (fun i c hc => ?_)
  · show (if w.heap.size = w.heap.size then vs[0 + i]? else _) = _
    rw [if_pos rfl, Nat.zero_add]
    have : i < vs.size := by rw [← h.size]; exact hi
    simp [this]
  · obtain ⟨v, hv, hr⟩ := h.get hc
    simp only [hv, Option.getD_some]
    exact hr.mono hle

/-- a boxed value: in an own block -/
theorem box_own (S : Sim base w0 g H w) {cs : List AV} {vs : Array Value} (h : RCells g cs vs) (t : TypeId) :
    ∃ g', g.le g' ∧ Sim base w0 g' (H ++ [.cells [cs] t]) (w.alloc (.cells vs t)) ∧ R g' (.mptr H.length 0 0) (.pointer (some ⟨w.heap.size, 0, none⟩)) := by
  have hle : g.le (g.phAdd H.length w.heap.size cs.length 1) := Gh.phAdd_le S.fresh
  refine ⟨_, hle, S.alloc (World.grownBy_alloc w _ none) (heap_alloc_new w _) (ORel.one (h.mono hle)), ?_⟩
  have := R.mptr (g := g.phAdd H.length w.heap.size cs.length 1) (b := H.length) (i := 0) (off := 0) (x := w.heap.size) (by simp [Gh.phAdd])
  simpa using this

/-! ### reading -/

theorem R.rptr_cell (S : Sim base w0 g H w) {cs : List AV} {off j : Nat} {p : Value} {c : AV} (h : R g (.rptr cs off) p) (hc : cs[off + j]? = some c) :
    ∃ ad : Addr, p = .pointer (some ad) ∧ ∃ v, w.cell? (ad.add j) = some v ∧ R g c v := by
  cases h with
  | rptr vs hf hr =>
    rename_i b o
    refine ⟨_, rfl, vs (off + j), ?_, hr _ _ hc⟩
    rw [add_none, Nat.add_assoc]
    exact S.fz _ _ _ (hf _ (List.getElem?_eq_some_iff.1 hc).1)

theorem cell_of_cells {x i : Nat} {cur : Array Value} {t : TypeId} {f : Nat × Nat} (h : w.heap[x]? = some (.cells cur t f)) : w.cell? ⟨x, i, none⟩ = cur[i]? := by
  simp [World.cell?, h]

theorem R.mptr_cell (S : Sim base w0 g H w) {b i off j : Nat} {p : Value} {es : List (List AV)} {t : TypeId} {e : List AV} {c : AV} (h : R g (.mptr b i off) p)
    (hb : H[b]? = some (.cells es t)) (he : es[i]? = some e) (hc : e[off + j]? = some c) :
    ∃ ad : Addr, p = .pointer (some ad) ∧ ∃ v, w.cell? (ad.add j) = some v ∧ R g c v := by
  cases h with
  | mptr h =>
    rename_i x
    obtain ⟨y, o, h1, h2, h3⟩ := S.obj b _ hb (by simp)
    rw [h] at h1; cases h1
    cases h3 with
    | cells hs hl hk hr =>
      obtain ⟨v, hv, hR⟩ := hr i e (off + j) c he hc
      refine ⟨_, rfl, v, ?_, hR⟩
      rw [add_none, cell_of_cells h2, Nat.add_assoc]
      exact hv

/-- what a load of type t reads out of cells, from off on -/
def loadA (P : Program) (t : TypeId) (cs : List AV) (off : Nat) : Option AV :=
  match P.underlying t, P.info? t with
  | some (.struct _), some i => if off + i.size ≤ cs.length then some (.agg ((cs.drop off).take i.size)) else none
  | some (.array _ _), some i => if off + i.size ≤ cs.length then some (.agg ((cs.drop off).take i.size)) else none
  | some _, some _ => cs[off]?
  | _, _ => none

theorem run_isAgg (t : TypeId) (d : TypeDesc) (h : P.underlying t = some d) : (isAgg t).run P w = .ok (match d with | .struct _ | .array _ _ => true | _ => false) w := by
  unfold isAgg
  simp only [Sem.run_bind, run_underlying h, Result.andThen_ok]
  cases d <;> rfl

theorem run_sizeOf (t : TypeId) (i : TypeInfo) (h : P.info? t = some i) : (sizeOf t).run P w = .ok i.size w := by
  simp [sizeOf, typeInfo, h]

theorem loadA_run {t : TypeId} {cs : List AV} {off : Nat} {a : AV} (h : loadA P t cs off = some a) (p : Value) (hne : ∃ ad : Addr, p = .pointer (some ad))
    (hcell : ∀ j c, cs[off + j]? = some c → ∃ ad : Addr, p = .pointer (some ad) ∧ ∃ v, w.cell? (ad.add j) = some v ∧ R g c v) :
    ∃ v, (Instr.loadAt t p).run P w = .ok v w ∧ R g a v := by
  obtain ⟨ad, rfl⟩ := hne
  have hcell' : ∀ j c, cs[off + j]? = some c → ∃ v, w.cell? (ad.add j) = some v ∧ R g c v := by
    intro j c hc
    obtain ⟨ad', e, v, h1, h2⟩ := hcell j c hc
    cases e
    exact ⟨v, h1, h2⟩
  have hagg : ∀ n, off + n ≤ cs.length → ∃ vs : List Value, (loadCells ad n).run P w = .ok vs.toArray w ∧ R g (.agg ((cs.drop off).take n)) (.agg vs.toArray) := by
    intro n hn
    have hall : ∀ j, j < n → ∃ c, cs[off + j]? = some c := fun j hj => ⟨cs[off + j], by simp [show off + j < cs.length by omega]⟩
    refine ⟨(List.range n).map fun j => (w.cell? (ad.add j)).getD undef, run_loadCells w ad n _ (fun j hj => ?_), ?_⟩
    · obtain ⟨c, hc⟩ := hall j hj
      obtain ⟨v, hv, _⟩ := hcell' j c hc
      simp [hv]
    · refine .agg (by simp; omega) (fun i c v hc hv => ?_)
      have hi : i < n := by
        rcases Nat.lt_or_ge i n with h | h
        · exact h
        · simp [h] at hv
      rw [List.getElem?_take, if_pos hi, List.getElem?_drop] at hc
      obtain ⟨u, hu, hR⟩ := hcell' i c hc
      simp [hi, hu] at hv
      subst hv
      exact hR
  unfold loadA at h
  unfold Instr.loadAt loadVar
  split at h
  · rename_i fs i hu hi
    split at h
    · cases h
      obtain ⟨vs, h1, h2⟩ := hagg i.size (by assumption)
      refine ⟨_, ?_, h2⟩
      simp [Instr.sureAddr, run_isAgg _ _ hu, run_sizeOf _ _ hi, h1]
    · cases h
  · rename_i n e i hu hi
    split at h
    · cases h
      obtain ⟨vs, h1, h2⟩ := hagg i.size (by assumption)
      refine ⟨_, ?_, h2⟩
      simp [Instr.sureAddr, run_isAgg _ _ hu, run_sizeOf _ _ hi, h1]
    · cases h
  · rename_i d i hs ha hu hi
    obtain ⟨v, hv, hR⟩ := hcell' 0 a (by simpa using h)
    rw [show ad.add 0 = ad from rfl] at hv
    refine ⟨v, ?_, hR⟩
    have hb : (isAgg t).run P w = .ok false w := by
      rw [run_isAgg _ _ hu]
      cases d <;> first | rfl | exact absurd rfl (hs _) | exact absurd rfl (ha _ _)
    simp [Instr.sureAddr, hb, hv]
  · cases h

end Go.Proofs.Ytdmgljlabigljaa.Ab

namespace Go.Proofs.Ytdmgljlabigljaa.Ab
open Go Go.RowKit

variable {base : Nat} {w0 w w' : World} {g : Gh} {H : Hp} {P : Program}

def AV.isCell : AV → Bool
  | .agg _ => false
  | .tup _ => false
  | .val v => v.oneCell'
  | _ => true

theorem R.isCell {a : AV} {v : Value} (h : R g a v) (hc : a.isCell = true) : v.oneCell' = true := by
  cases h <;> first | exact hc | rfl | cases hc

def setAt {α : Type} (e : List α) (off : Nat) (cs : List α) : List α := e.take off ++ cs ++ e.drop (off + cs.length)

theorem setAt_length {α : Type} (e cs : List α) (off : Nat) (h : off + cs.length ≤ e.length) : (setAt e off cs).length = e.length := by
  simp [setAt]; omega

theorem setAt_get {α : Type} (e cs : List α) (off j : Nat) (h : off + cs.length ≤ e.length) :
    (setAt e off cs)[j]? = if j < off then e[j]? else if j < off + cs.length then cs[j - off]? else e[j]? := by
  unfold setAt
  by_cases h1 : j < off
  · rw [if_pos h1, List.getElem?_append_left (by simp; omega), List.getElem?_append_left (by simp; omega), List.getElem?_take, if_pos h1]
  · rw [if_neg h1]
    by_cases h2 : j < off + cs.length
    · rw [if_pos h2, List.getElem?_append_left (by simp; omega), List.getElem?_append_right (by simp; omega)]
      congr 1
      simp; omega
    · rw [if_neg h2, List.getElem?_append_right (by simp; omega), List.getElem?_drop]
      congr 1
      simp; omega

theorem idx_lt {i i' j k : Nat} (h : i < i') (hj : j < k) : i * k + j < i' * k := by
  have := Nat.mul_le_mul_right k (Nat.succ_le_of_lt h)
  rw [Nat.succ_mul] at this
  omega

/-- one element of a row of cells is written in part -/
theorem ORel.write {k cp : Nat} {es : List (List AV)} {t : TypeId} {cur : Array Value} {i off : Nat} {e cs : List AV} {vs : Array Value}
    (h : ORel g k cp (.cells es t) (.cells cur t (0, 0))) (he : es[i]? = some e) (hoff : off + cs.length ≤ e.length) (hv : RCells g cs vs) :
    i * k + off + vs.size ≤ cur.size ∧
    ORel g k cp (.cells (es.set i (setAt e off cs)) t) (.cells (setAt cur.toList (i * k + off) vs.toList).toArray t (0, 0)) := by
  cases h with
  | cells hs hl hk hr =>
    have hek := hk i e he
    have hi : i < es.length := (List.getElem?_eq_some_iff.1 he).1
    have hsz := hv.size
    have hfit : i * k + off + vs.size ≤ cur.size := by
      have h1 := Nat.mul_le_mul_right k (Nat.le_trans (Nat.succ_le_of_lt hi) hl)
      rw [Nat.succ_mul] at h1
      omega
    refine ⟨hfit, .cells ?_ (by simpa using hl) (fun i' e' he' => ?_) (fun i' e' j c he' hc => ?_)⟩
    · rw [List.size_toArray, setAt_length _ _ _ (by simpa using hfit)]; simpa using hs
    · rw [List.getElem?_set] at he'
      by_cases hii : i = i'
      · rw [if_pos hii, if_pos hi] at he'
        cases he'; rw [setAt_length _ _ _ hoff]; exact hek
      · rw [if_neg hii] at he'
        exact hk i' e' he'
    · rw [List.getElem?_toArray, setAt_get _ _ _ _ (by simpa using hfit)]
      simp only [Array.length_toList, Array.getElem?_toList]
      rw [List.getElem?_set] at he'
      by_cases hii : i = i'
      · rw [if_pos hii, if_pos hi] at he'
        subst hii
        cases he'
        rw [setAt_get _ _ _ _ hoff] at hc
        by_cases h1 : j < off
        · rw [if_pos h1] at hc
          rw [if_pos (by omega)]
          exact hr i e j c he hc
        · rw [if_neg h1] at hc
          by_cases h2 : j < off + cs.length
          · rw [if_pos h2] at hc
            rw [if_neg (by omega), if_pos (by omega), show i * k + j - (i * k + off) = j - off by omega]
            exact hv.get hc
          · rw [if_neg h2] at hc
            rw [if_neg (by omega), if_neg (by omega)]
            exact hr i e j c he hc
      · rw [if_neg hii] at he'
        obtain ⟨v, h1, h2⟩ := hr i' e' j c he' hc
        have hj : j < k := by rw [← hk i' e' he']; exact (List.getElem?_eq_some_iff.1 hc).1
        refine ⟨v, ?_, h2⟩
        rw [← h1]
        rcases Nat.lt_or_gt_of_ne hii with h | h
        · have := idx_lt h (show k - 1 < k by omega)
          rw [if_neg (by omega), if_neg (by omega)]
        · have := idx_lt h hj
          rw [if_pos (by omega)]

/-- a store into an own block -/
theorem store_own (S : Sim base w0 g H w) {b i off : Nat} {es : List (List AV)} {t : TypeId} {e : List AV} {p v : Value} {a : AV} {ty : TypeId} {inf : TypeInfo}
    (hp : R g (.mptr b i off) p) (hb : H[b]? = some (.cells es t)) (he : es[i]? = some e) (hv : R g a v) (hi : P.info? ty = some inf) (hsz : inf.size = a.cells.length)
    (hoff : off + a.cells.length ≤ e.length) (hc : a.cells.all AV.isCell = true) :
    ∃ w', (Instr.storeAt ty p v).run P w = .ok () w' ∧ Sim base w0 g (H.set b (.cells (es.set i (setAt e off a.cells)) t)) w' := by
  cases hp with
  | mptr hx =>
    rename_i x
    obtain ⟨y, o, h1, h2, h3⟩ := S.obj b _ hb (by simp)
    rw [hx] at h1; cases h1
    have hcs := hv.cells
    cases h3 with
    | cells hs hl hk hr =>
      rename_i cur
      have hw := ORel.write (t := t) (.cells hs hl hk hr) he hoff hcs
      have hone : ∀ u ∈ v.cells.toList, u.oneCell' = true := by
        intro u hu
        obtain ⟨j, hj⟩ := List.getElem?_of_mem hu
        have hj' : j < a.cells.length := by rw [hcs.size]; simpa using (List.getElem?_eq_some_iff.1 hj).1
        have hcj : a.cells[j]? = some a.cells[j] := by simp [hj']
        exact (hcs.cell j _ u hcj (by simpa using hj)).isCell (List.all_eq_true.1 hc _ (List.getElem_mem hj'))
      have hrun := run_storeCells_at P x (i * g.ks b + off) t v.cells.toList 0 cur w h2 (by simpa using hw.1) hone
      refine ⟨_, ?_, S.turn hb (by simp) hx (w' := w.setRow x (setAt cur.toList (i * g.ks b + off) v.cells.toList).toArray) ?_ (setRow_heap w x cur _ t _ h2) hw.2⟩
      · simp only [Instr.storeAt, Instr.sureAddr, storeVar, Sem.run_bind, Sem.run_pure, Result.andThen_ok, run_sizeOf _ _ hi]
        have : ¬ (v.cells.size ≠ inf.size) := by rw [hsz, hcs.size]; simp
        rw [if_neg this, hrun]
        simp [setAt]
      · exact ⟨rfl, rfl, rfl, by simp [World.setRow], fun k _ hk => setRow_other w x k _ (fun e => hk (by simp [e]))⟩

/-! ### addresses -/

theorem rptr_add {cs : List AV} {off d : Nat} {p : Value} (h : R g (.rptr cs off) p) : ∃ ad : Addr, p = .pointer (some ad) ∧ R g (.rptr cs (off + d)) (.pointer (some (ad.add d))) := by
  cases h with
  | rptr vs hf hr => exact ⟨_, rfl, by rw [add_none, Nat.add_assoc]; exact .rptr vs hf hr⟩

theorem mptr_add {b i off d : Nat} {p : Value} (h : R g (.mptr b i off) p) : ∃ ad : Addr, p = .pointer (some ad) ∧ R g (.mptr b i (off + d)) (.pointer (some (ad.add d))) := by
  cases h with
  | mptr hx => exact ⟨_, rfl, by rw [add_none, Nat.add_assoc]; exact .mptr hx⟩

/-- the offset of a field -/
def fieldOff (P : Program) (s : TypeId) (f : Nat) : Option Nat :=
  match P.underlying s with
  | some (.struct fields) => match fields[f]? with
    | some fl => match P.info? fl.type with
      | some i => if i.size = 0 then none else some fl.offset
      | none => none
    | none => none
  | _ => none

theorem fieldOff_run {s : TypeId} {f d : Nat} (h : fieldOff P s f = some d) (ad : Addr) :
    (Instr.fieldAt s (.pointer (some ad)) f).run P w = .ok (.pointer (some (ad.add d))) w := by
  unfold fieldOff at h
  split at h
  · rename_i fields hu
    split at h
    · rename_i fl hf
      split at h
      · rename_i i hi
        split at h
        · cases h
        · rename_i hne
          cases h
          simp [Instr.fieldAt, run_underlying hu, hf, Instr.sureAddr, fieldPlace, run_sizeOf _ _ hi, hne]
      · cases h
    · cases h
  · cases h

/-- an element's address -/
theorem rsl_index {es : List (List AV)} {ex : Bool} {x : Value} {i : Nat} {e : List AV} (h : R g (.rsl es ex) x) (he : es[i]? = some e) :
    ∃ (ad : Addr) (n cap : Nat), x = .slice (some ad) n cap ∧ n = es.length ∧ R g (.rptr e 0) (.pointer (some (ad.add (i * e.length)))) := by
  cases h with
  | rnil => cases he
  | rsl vs hn hl hc hm hk hf hr =>
    rename_i b o k n cap
    refine ⟨_, _, _, rfl, hn, ?_⟩
    have hek := hk i e he
    rw [add_none]
    have hi : i < es.length := (List.getElem?_eq_some_iff.1 he).1
    have : R g (.rptr e 0) (.pointer (some ⟨b, (o + i * e.length) + 0, none⟩)) :=
      .rptr (vs i) (fun j hj => by rw [hek]; exact hf i j hi (by omega)) (fun j c hc => hr i e j c he hc)
    simpa using this

theorem msl_index (S : Sim base w0 g H w) {b off len i : Nat} {x : Value} {es : List (List AV)} {t : TypeId} {e : List AV} (h : R g (.msl b off len) x) (hb : H[b]? = some (.cells es t)) (he : es[off + i]? = some e) :
    ∃ (ad : Addr) (cap : Nat), x = .slice (some ad) len cap ∧ R g (.mptr b (off + i) 0) (.pointer (some (ad.add (i * e.length)))) := by
  cases h with
  | msl hx hl hc hm =>
    rename_i y cap
    obtain ⟨z, o, h1, h2, h3⟩ := S.obj b _ hb (by simp)
    cases h3 with
    | cells hs hl' hk hr =>
      have hek := hk _ e he
      refine ⟨_, _, rfl, ?_⟩
      rw [add_none, hek, ← Nat.add_mul]
      have := R.mptr (g := g) (b := b) (i := off + i) (off := 0) hx
      simpa using this

end Go.Proofs.Ytdmgljlabigljaa.Ab

namespace Go.Proofs.Ytdmgljlabigljaa.Ab
open Go Go.RowKit

variable {base : Nat} {w0 w w' : World} {g : Gh} {H : Hp} {P : Program}

theorem foldset (off : Nat) : ∀ (l : List Value) (s : Nat) (cells : Array Value), off + s + l.length ≤ cells.size →
    ((l.zipIdx s).foldl (fun cs (c, j) => cs.setIfInBounds (off + j) c) cells).toList = setAt cells.toList (off + s) l
  | [], s, cells, h => by simp [setAt]
  | c :: l, s, cells, h => by
    rw [List.zipIdx_cons, List.foldl_cons, foldset off l (s + 1) _ (by simp at h ⊢; omega)]
    apply List.ext_getElem?
    intro j
    simp at h
    rw [setAt_get _ _ _ _ (by simp; omega), setAt_get _ _ _ _ (by simp; omega)]
    simp only [Array.toList_setIfInBounds, List.length_cons, List.getElem?_set, Array.length_toList]
    by_cases h1 : j < off + s
    · rw [if_pos (by omega), if_pos h1, if_neg (by omega)]
    · rw [if_neg h1]
      by_cases h2 : j = off + s
      · subst h2
        rw [if_pos (by omega), if_pos rfl, if_pos (by omega), if_pos (by omega)]
        simp
      · rw [if_neg (by omega)]
        by_cases h3 : j < off + s + (l.length + 1)
        · rw [if_pos (by omega), if_pos h3, show j - (off + s) = (j - (off + (s + 1))) + 1 by omega, List.getElem?_cons_succ]
        · rw [if_neg (by omega), if_neg h3, if_neg (by omega)]

def fillA (place : Nat → Option (Nat × Nat)) (cells : List AV) : List (Nat × AV) → Option (List AV)
  | [] => some cells
  | (i, v) :: rest =>
    match place i with
    | none => none
    | some (off, size) => if v.cells.length ≠ size ∨ off + v.cells.length > cells.length then none else fillA place (setAt cells off v.cells) rest

theorem RCells.setAt {cs ds : List AV} {vs us : Array Value} {off : Nat} (h : RCells g cs vs) (k : RCells g ds us) (hoff : off + ds.length ≤ cs.length) :
    RCells g (setAt cs off ds) (Ab.setAt vs.toList off us.toList).toArray := by
  have h1 := h.size
  have h2 := k.size
  refine ⟨by simp [setAt_length _ _ _ hoff]; rw [setAt_length _ _ _ (by simp; omega)]; simpa using h1, fun i c v hc hv => ?_⟩
  rw [setAt_get _ _ _ _ hoff] at hc
  rw [List.getElem?_toArray, setAt_get _ _ _ _ (by simp; omega)] at hv
  simp only [Array.length_toList, Array.getElem?_toList, ← h2] at hv
  by_cases e1 : i < off
  · rw [if_pos e1] at hc hv; exact h.cell i c v hc hv
  · rw [if_neg e1] at hc hv
    by_cases e2 : i < off + ds.length
    · rw [if_pos e2] at hc hv; exact k.cell _ c v hc hv
    · rw [if_neg e2] at hc hv; exact h.cell i c v hc hv

theorem fill_run (place : Nat → Option (Nat × Nat)) : ∀ (ps : List (Nat × AV)) (qs : List (Nat × Value)) (cs : List AV) (vs : Array Value) (out : List AV),
    RCells g cs vs → ps.length = qs.length → (∀ (n : Nat) (p : Nat × AV) (q : Nat × Value), ps[n]? = some p → qs[n]? = some q → p.1 = q.1 ∧ R g p.2 q.2) → fillA place cs ps = some out →
    ∃ us, Instr.fill place vs qs = some us ∧ RCells g out us
  | [], [], cs, vs, out, h, _, _, e => by simp only [fillA, Option.some.injEq] at e; subst e; exact ⟨vs, rfl, h⟩
  | [], _ :: _, _, _, _, _, hl, _, _ => by simp at hl
  | _ :: _, [], _, _, _, _, hl, _, _ => by simp at hl
  | (i, a) :: ps, (i', v) :: qs, cs, vs, out, h, hl, hr, e => by
    obtain ⟨e0, hR⟩ := hr 0 (i, a) (i', v) rfl rfl
    simp only at e0; subst e0
    have hc := hR.cells
    simp only at hc
    have hsz := hc.size
    have hsz' := h.size
    simp only [fillA] at e
    simp only [Instr.fill]
    split at e
    · cases e
    · rename_i off size hp
      split at e
      · cases e
      · rename_i hn
        rw [not_or] at hn
        obtain ⟨hn1, hn2⟩ := hn
        simp only [hp]
        rw [if_neg (by simp only [Bool.or_eq_true, decide_eq_true_eq, not_or]; omega)]
        have hfold : (v.cells.zipIdx.foldl (fun cs (c, j) => cs.setIfInBounds (off + j) c) vs) = (setAt vs.toList off v.cells.toList).toArray := by
          have := foldset off v.cells.toList 0 vs (by simp; omega)
          apply Array.ext'
          rw [← Array.foldl_toList, Array.toList_zipIdx]
          simpa using this
        rw [hfold]
        exact fill_run place ps qs _ _ out (h.setAt hc (by omega)) (by simpa using hl) (fun n p q hp hq => hr (n + 1) p q (by simpa using hp) (by simpa using hq)) e

/-- the places of a struct's fields -/
def placeA (P : Program) (fields : Array Field) (i : Nat) : Option (Nat × Nat) :=
  match fields[i]? with
  | some f => match P.info? f.type with
    | some inf => some (f.offset, inf.size)
    | none => none
  | none => none

theorem places_run (P : Program) : ∀ (fs : List Field), (∀ f, f ∈ fs → (P.info? f.type).isSome = true) →
    (fs.mapM fun f => do pure (f.offset, ← sizeOf f.type) : Sem (List (Nat × Nat))).run P w = .ok (fs.map fun f => (f.offset, ((P.info? f.type).map (·.size)).getD 0)) w
  | [], _ => by simp
  | f :: fs, h => by
    have h1 := h f (by simp)
    obtain ⟨i, hi⟩ := Option.isSome_iff_exists.1 h1
    have ih := places_run P fs (fun f' hf => h f' (by simp [hf]))
    rw [List.mapM_cons]
    simp only [Sem.run_bind, run_sizeOf _ _ hi, Result.andThen_ok, Sem.run_pure, ih, List.map_cons, hi, Option.map_some, Option.getD_some]

/-- the parts of a composite literal -/
def partsA (T : Operand → AV) (ps : Array (Nat × Operand)) : List (Nat × AV) := ps.toList.map fun p => (p.1, T p.2)

def buildA (P : Program) (t : TypeId) (ps : List (Nat × AV)) : Option AV :=
  match P.underlying t, P.info? t with
  | some (.struct fields), some inf =>
    match inf.zero with
    | some z => if fields.toList.all (fun f => (P.info? f.type).isSome) then (fillA (placeA P fields) (z.cells.toList.map .val) ps).map .agg else none
    | none => none
  | some (.array _ elem), some inf =>
    match inf.zero, P.info? elem with
    | some z, some ie => (fillA (fun i => some (i * ie.size, ie.size)) (z.cells.toList.map .val) ps).map .agg
    | _, _ => none
  | _, _ => none

theorem RCells.vals (vs : Array Value) : RCells g (vs.toList.map .val) vs := by
  refine ⟨by simp, fun i c v hc hv => ?_⟩
  simp only [List.getElem?_map, Array.getElem?_toList, hv, Option.map_some, Option.some.injEq] at hc
  subst hc
  exact .val v

theorem build_run {t : TypeId} {ps : List (Nat × AV)} {qs : Array (Nat × Value)} {a : AV} (h : buildA P t ps = some a) (hl : ps.length = qs.size)
    (hr : ∀ (n : Nat) (p : Nat × AV) (q : Nat × Value), ps[n]? = some p → qs[n]? = some q → p.1 = q.1 ∧ R g p.2 q.2) :
    ∃ v, (Instr.build t qs).run P w = .ok v w ∧ R g a v := by
  have hr' : ∀ (n : Nat) (p : Nat × AV) (q : Nat × Value), ps[n]? = some p → qs.toList[n]? = some q → p.1 = q.1 ∧ R g p.2 q.2 := fun n p q hp hq => hr n p q hp (by simpa using hq)
  unfold buildA at h
  split at h
  · rename_i fields inf hu hi
    split at h
    · rename_i z hz
      split at h
      · rename_i hall
        simp only [Option.map_eq_some_iff] at h
        obtain ⟨cs, hcs, rfl⟩ := h
        obtain ⟨us, hus, hR⟩ := fill_run (placeA P fields) ps qs.toList _ _ cs (RCells.vals z.cells) (by simpa using hl) hr' hcs
        refine ⟨.agg us, ?_, .agg hR.size hR.cell⟩
        have hpl : (fields.mapM fun f => do pure (f.offset, ← sizeOf f.type) : Sem (Array (Nat × Nat))).run P w = .ok (fields.toList.map fun f => (f.offset, ((P.info? f.type).map (·.size)).getD 0)).toArray w := by
          rw [Array.mapM_eq_mapM_toList, Sem.run_map, places_run P fields.toList (fun f hf => List.all_eq_true.1 hall f hf)]
          rfl
        have hplace : (fun i => (fields.toList.map fun f => (f.offset, ((P.info? f.type).map (·.size)).getD 0)).toArray[i]?) = placeA P fields := by
          funext i
          simp only [List.getElem?_toArray, List.getElem?_map, Array.getElem?_toList, placeA]
          cases hf : fields[i]? with
          | none => rfl
          | some f =>
            have : f ∈ fields.toList := by simpa using Array.mem_of_getElem? hf
            obtain ⟨inf', hinf'⟩ := Option.isSome_iff_exists.1 (List.all_eq_true.1 hall f this)
            simp [hinf']
        simp only [Instr.build, Sem.run_bind, zeroValue, typeInfo, run_program, Result.andThen_ok, hi, hz, Sem.run_pure, run_underlying hu, hpl, hplace, hus]
      · cases h
    · cases h
  · rename_i n elem inf hu hi
    split at h
    · rename_i z ie hz hie
      simp only [Option.map_eq_some_iff] at h
      obtain ⟨cs, hcs, rfl⟩ := h
      obtain ⟨us, hus, hR⟩ := fill_run (fun i => some (i * ie.size, ie.size)) ps qs.toList _ _ cs (RCells.vals z.cells) (by simpa using hl) hr' hcs
      refine ⟨.agg us, ?_, .agg hR.size hR.cell⟩
      simp only [Instr.build, Sem.run_bind, zeroValue, typeInfo, run_program, Result.andThen_ok, hi, hz, Sem.run_pure, run_underlying hu, run_sizeOf _ _ hie, hus]
    · cases h
  · cases h

end Go.Proofs.Ytdmgljlabigljaa.Ab

namespace Go.Proofs.Ytdmgljlabigljaa.Ab
open Go Go.RowKit

variable {base : Nat} {w0 w w' : World} {g : Gh} {H : Hp} {P : Program}

/-- elements of k cells each, one behind the other -/
structure FRel (g : Gh) (k : Nat) (es : List (List AV)) (us : List Value) : Prop where
  size : us.length = es.length * k
  len : ∀ (i : Nat) (e : List AV), es[i]? = some e → e.length = k
  cell : ∀ (i : Nat) (e : List AV) (j : Nat) (c : AV), es[i]? = some e → e[j]? = some c → ∃ v, us[i * k + j]? = some v ∧ R g c v

theorem FRel.mono {g' : Gh} (hg : g.le g') {k : Nat} {es : List (List AV)} {us : List Value} (h : FRel g k es us) : FRel g' k es us :=
  ⟨h.size, h.len, fun i e j c he hc => let ⟨v, h1, h2⟩ := h.cell i e j c he hc; ⟨v, h1, h2.mono hg⟩⟩

theorem FRel.lt {k : Nat} {es : List (List AV)} {us : List Value} (h : FRel g k es us) {i j : Nat} {e : List AV} {c : AV} (he : es[i]? = some e) (hc : e[j]? = some c) : i * k + j < us.length := by
  obtain ⟨v, hv, _⟩ := h.cell i e j c he hc
  exact (List.getElem?_eq_some_iff.1 hv).1

theorem FRel.append {k : Nat} {es es' : List (List AV)} {us us' : List Value} (h : FRel g k es us) (h' : FRel g k es' us') : FRel g k (es ++ es') (us ++ us') := by
  refine ⟨by simp [h.size, h'.size, Nat.add_mul], fun i e he => ?_, fun i e j c he hc => ?_⟩
  · rw [List.getElem?_append] at he
    split at he
    · exact h.len i e he
    · exact h'.len _ e he
  · rw [List.getElem?_append] at he
    split at he
    · obtain ⟨v, hv, hR⟩ := h.cell i e j c he hc
      exact ⟨v, by rw [List.getElem?_append_left (h.lt he hc)]; exact hv, hR⟩
    · rename_i hge
      obtain ⟨v, hv, hR⟩ := h'.cell _ e j c he hc
      refine ⟨v, ?_, hR⟩
      have hle : us.length ≤ i * k + j := by rw [h.size]; exact Nat.le_trans (Nat.mul_le_mul_right k (by omega)) (Nat.le_add_right _ _)
      rw [List.getElem?_append_right hle, ← hv, h.size]
      congr 1
      have := Nat.sub_mul i es.length k
      have := Nat.mul_le_mul_right k (show es.length ≤ i by omega)
      omega

theorem FRel.nil (k : Nat) : FRel g k [] [] := ⟨by simp, by simp, by simp⟩

theorem FRel.orel {k cp : Nat} {es : List (List AV)} {us : List Value} (h : FRel g k es us) {cur : Array Value} {t : TypeId} (hs : cur.size = cp * k) (hl : es.length ≤ cp)
    (ht : cur.toList.take (es.length * k) = us) : ORel g k cp (.cells es t) (.cells cur t (0, 0)) := by
  refine .cells hs hl h.len (fun i e j c he hc => ?_)
  obtain ⟨v, hv, hR⟩ := h.cell i e j c he hc
  refine ⟨v, ?_, hR⟩
  rw [← ht, List.getElem?_take] at hv
  split at hv
  · simpa using hv
  · cases hv

theorem FRel.one {k : Nat} {es : List (List AV)} {us : List Value} (h : FRel g k es us) (hc : es.all (fun e => e.all AV.isCell) = true) (hk : 0 < k) : ∀ u ∈ us, u.oneCell' = true := by
  intro u hu
  obtain ⟨p, hp⟩ := List.getElem?_of_mem hu
  have hlt : p < es.length * k := by rw [← h.size]; exact (List.getElem?_eq_some_iff.1 hp).1
  have hi : p / k < es.length := Nat.div_lt_of_lt_mul (by rw [Nat.mul_comm]; exact hlt)
  have hj : p % k < k := Nat.mod_lt _ hk
  have he : es[p / k]? = some es[p / k] := by simp [hi]
  have hlen := h.len _ _ he
  have hce : es[p / k][p % k]? = some (es[p / k][p % k]'(by omega)) := by simp [hlen, hj]
  obtain ⟨v, hv, hR⟩ := h.cell _ _ _ _ he hce
  rw [Nat.mul_comm, Nat.div_add_mod] at hv
  rw [hv] at hp
  cases hp
  have h1 := List.all_eq_true.1 hc _ (List.getElem_mem hi)
  exact hR.isCell (List.all_eq_true.1 h1 _ (List.getElem_mem _))

theorem rsl_flat (S : Sim base w0 g H w) {es : List (List AV)} {ex : Bool} {x : Value} {k : Nat} (h : R g (.rsl es ex) x) (hk : 0 < k) (hlen : es.all (fun e => e.length == k) = true) (hne : ∀ a, x ≠ .slice a 0 0) :
    ∃ (ad : Addr) (cap : Nat) (us : List Value), x = .slice (some ad) es.length cap ∧ es.length ≤ cap ∧ (ex = true → cap = es.length) ∧ cap ≤ maxLen ∧ FRel g k es us ∧ ∀ j u, us[j]? = some u → w.cell? (ad.add j) = some u := by
  cases h with
  | rnil a => exact absurd rfl (hne a)
  | rsl vs hn hl hc hm hk' hf hr =>
    rename_i b o k' n cap
    subst hn
    have hl' : ∀ (i : Nat) (e : List AV), es[i]? = some e → e.length = k := fun i e he => by
      have := List.all_eq_true.1 hlen e (List.mem_of_getElem? he)
      simpa using this
    refine ⟨_, cap, (List.range (es.length * k)).map fun p => vs (p / k) (p % k), rfl, hl, hc, hm, ⟨by simp, hl', fun i e j c he hc => ?_⟩, fun p u hp => ?_⟩
    · have hj : j < k := by rw [← hl' i e he]; exact (List.getElem?_eq_some_iff.1 hc).1
      have hi : i < es.length := (List.getElem?_eq_some_iff.1 he).1
      have hlt := idx_lt hi hj
      refine ⟨vs i j, ?_, hr i e j c he hc⟩
      rw [List.getElem?_map, List.getElem?_range hlt, Option.map_some]
      have e1 : (i * k + j) / k = i := by rw [Nat.mul_comm, Nat.mul_add_div hk, Nat.div_eq_of_lt hj, Nat.add_zero]
      have e2 : (i * k + j) % k = j := by rw [Nat.mul_comm, Nat.mul_add_mod, Nat.mod_eq_of_lt hj]
      rw [e1, e2]
    · have hp' : p < es.length * k := by
        rcases Nat.lt_or_ge p (es.length * k) with h | h
        · exact h
        · simp [h] at hp
      rw [List.getElem?_map, List.getElem?_range hp', Option.map_some, Option.some.injEq] at hp
      subst hp
      have hi : p / k < es.length := Nat.div_lt_of_lt_mul (by rw [Nat.mul_comm]; exact hp')
      have hj : p % k < k := Nat.mod_lt _ hk
      have he : es[p / k]? = some es[p / k] := by simp [hi]
      have ek : k' = k := (hk' _ _ he).symm.trans (hl' _ _ he)
      subst ek
      rw [add_none]
      have := S.fz _ _ _ (hf (p / k') (p % k') hi hj)
      rw [Nat.add_assoc, Nat.mul_comm, Nat.div_add_mod] at this
      exact this

theorem msl_flat (S : Sim base w0 g H w) {b off len : Nat} {x : Value} {k : Nat} {es : List (List AV)} {t : TypeId} (h : R g (.msl b off len) x) (hb : H[b]? = some (.cells es t))
    (hfit : off + len ≤ es.length) (hlen : es.all (fun e => e.length == k) = true) (h0 : 0 < es.length) :
    ∃ (y cap : Nat) (cur : Array Value), x = .slice (some ⟨y, off * k, none⟩) len cap ∧ g.ph b = some y ∧ g.ks b = k ∧ len ≤ cap ∧ off + cap = g.cp b ∧ cap ≤ maxLen ∧ w.heap[y]? = some (.cells cur t (0, 0)) ∧ cur.size = g.cp b * k ∧
      FRel g k ((es.drop off).take len) ((cur.toList.drop (off * k)).take (len * k)) := by
  cases h with
  | msl hx hl hc hm =>
    rename_i y cap
    obtain ⟨z, o, h1, h2, h3⟩ := S.obj b _ hb (by simp)
    rw [hx] at h1; cases h1
    cases h3 with
    | cells hs hl' hk hr =>
      rename_i cur
      have hl'' : ∀ (i : Nat) (e : List AV), es[i]? = some e → e.length = k := fun i e he => by
        have := List.all_eq_true.1 hlen e (List.mem_of_getElem? he)
        simpa using this
      have ek : g.ks b = k := by
        have he : es[0]? = some es[0] := by simp [h0]
        exact (hk _ _ he).symm.trans (hl'' _ _ he)
      rw [ek] at hs hr
      refine ⟨_, cap, cur, by rw [ek], hx, ek, hl, hc, hm, h2, hs, ⟨?_, fun i e he => ?_, fun i e j c he hc' => ?_⟩⟩
      · have e1 := Nat.mul_le_mul_right k (show off + len ≤ g.cp b by omega)
        have e2 := Nat.add_mul off len k
        simp only [List.length_take, List.length_drop, Array.length_toList]
        rw [show min len (es.length - off) = len by omega]
        omega
      · rw [List.getElem?_take] at he
        split at he
        · rw [List.getElem?_drop] at he; exact hl'' _ e he
        · cases he
      · rw [List.getElem?_take] at he
        split at he
        · rename_i hi
          rw [List.getElem?_drop] at he
          obtain ⟨v, hv, hR⟩ := hr _ e j c he hc'
          refine ⟨v, ?_, hR⟩
          have hj : j < k := by rw [← hl'' _ e he]; exact (List.getElem?_eq_some_iff.1 hc').1
          rw [List.getElem?_take, if_pos (idx_lt hi hj), List.getElem?_drop, Array.getElem?_toList, ← hv]
          congr 1
          have := Nat.add_mul off i k
          omega
        · cases he

/-- an own row of cells, told under a new number -/
theorem own_new (S : Sim base w0 g H w) {es : List (List AV)} {us : List Value} {cur : Array Value} {t : TypeId} {k cp : Nat} (hF : FRel g k es us) (hs : cur.size = cp * k) (hl : es.length ≤ cp)
    (ht : cur.toList.take (es.length * k) = us) (hm : cp ≤ maxLen) (hg : w.grownBy w' none) (hx : w'.heap[w.heap.size]? = some (.cells cur t (0, 0))) :
    ∃ g', g.le g' ∧ Sim base w0 g' (H ++ [.cells es t]) w' ∧ R g' (.msl H.length 0 es.length) (.slice (some ⟨w.heap.size, 0, none⟩) es.length cp) := by
  have hle : g.le (g.phAdd H.length w.heap.size k cp) := Gh.phAdd_le S.fresh
  refine ⟨_, hle, S.alloc hg hx ((hF.mono hle).orel hs hl ht), ?_⟩
  have : R (g.phAdd H.length w.heap.size k cp) (.msl H.length 0 es.length) (.slice (some ⟨w.heap.size, 0 * (g.phAdd H.length w.heap.size k cp).ks H.length, none⟩) es.length cp) :=
    .msl (by simp [Gh.phAdd]) hl (by simp [Gh.phAdd]) hm
  simpa using this

/-- what is appended: elements, where they lie -/
structure Src (w : World) (g : Gh) (k : Nat) (xs : List (List AV)) (x : Value) : Prop where
  at_ : ∃ (ad : Addr) (c : Nat) (us : List Value), x = .slice (some ad) xs.length c ∧ FRel g k xs us ∧ ∀ j u, us[j]? = some u → w.cell? (ad.add j) = some u

theorem Src.rsl (S : Sim base w0 g H w) {xs : List (List AV)} {ex : Bool} {x : Value} {k : Nat} (h : R g (.rsl xs ex) x) (hk : 0 < k) (hlen : xs.all (fun e => e.length == k) = true) (h0 : 0 < xs.length) : Src w g k xs x := by
  obtain ⟨ad, cap, us, h1, _, _, _, h2, h3⟩ := rsl_flat S h hk hlen (by rintro a rfl; cases h <;> first | cases h0 | (rename_i hn _ _ _ _ _ _; omega))
  exact ⟨ad, cap, us, h1, h2, h3⟩

theorem Src.msl (S : Sim base w0 g H w) {b off len : Nat} {x : Value} {k : Nat} {es : List (List AV)} {t : TypeId} (h : R g (.msl b off len) x) (hb : H[b]? = some (.cells es t))
    (hfit : off + len ≤ es.length) (hlen : es.all (fun e => e.length == k) = true) (h0 : 0 < es.length) : Src w g k ((es.drop off).take len) x := by
  obtain ⟨y, cap, cur, h1, h2, h3, h4, h5, h6, h7, h8, h9⟩ := msl_flat S h hb hfit hlen h0
  refine ⟨⟨y, off * k, none⟩, cap, _, ?_, h9, fun j u hu => ?_⟩
  · rw [h1]; congr 1; simp; omega
  · rw [List.getElem?_take] at hu
    split at hu
    · rw [List.getElem?_drop] at hu
      rw [add_none, cell_of_cells h7]
      simpa using hu
    · cases hu

section append
variable {t ty e : TypeId} {inf : TypeInfo} {z : Value} {xs : List (List AV)} {x : Value}

theorem append_nil (S : Sim base w0 g H w) (ht : P.underlying t = some (.slice e)) (hi : P.info? e = some inf) (hz : inf.zero = some z) (hzs : z.cells.size = inf.size)
    (hx : Src w g inf.size xs x) (h0 : 0 < xs.length) (hm : xs.length ≤ maxLen) (hb : xs.length * inf.bytes ≤ 140737488355328) :
    ∃ v w' g', (Builtin.append_ #[t, t] ty #[.slice none 0 0, x]).run P w = .ok v w' ∧ g.le g' ∧ Sim base w0 g' (H ++ [.cells xs e]) w' ∧ R g' (.msl H.length 0 xs.length) v := by
  obtain ⟨ad, c, us, rfl, hF, hus⟩ := hx.at_
  have hr := run_append_nil (P := P) w t ty e inf z ht hi hz ad xs.length c us hF.size hus h0 (by simp only [maxLen] at hm; omega) (by omega)
  have hge := grownCap_ge w xs.length 0 e
  have hcm := grownCap_le_maxLen w xs.length 0 e hm
  have hown := own_new S (w' := w.drew.alloc (.cells (us.toArray ++ Builtin.zeroCells z.cells (grownCap w xs.length 0 e - xs.length)) e))
    (cur := us.toArray ++ Builtin.zeroCells z.cells (grownCap w xs.length 0 e - xs.length)) (t := e) (cp := grownCap w xs.length 0 e) hF ?_ hge ?_ hcm
    ⟨rfl, rfl, rfl, by simp, fun k hk _ => heap_alloc_old w.drew _ k hk⟩ (heap_alloc_new w.drew _)
  · obtain ⟨g', h1, h2, h3⟩ := hown
    exact ⟨_, _, g', hr, h1, h2, h3⟩
  · simp only [Array.size_append, List.size_toArray, size_zeroCells, hzs, hF.size, ← Nat.add_mul]
    congr 1
    omega
  · rw [← hF.size]
    simp

theorem append_exact (S : Sim base w0 g H w) (ht : P.underlying t = some (.slice e)) (hi : P.info? e = some inf) (hz : inf.zero = some z) (hzs : z.cells.size = inf.size) (hk : 0 < inf.size)
    {es : List (List AV)} {s : Value} (hs : R g (.rsl es true) s) (hlen : es.all (fun e => e.length == inf.size) = true)
    (hx : Src w g inf.size xs x) (h0 : 0 < xs.length) (hm : es.length + xs.length ≤ maxLen) (hb : (es.length + xs.length) * inf.bytes ≤ 140737488355328) :
    ∃ v w' g', (Builtin.append_ #[t, t] ty #[s, x]).run P w = .ok v w' ∧ g.le g' ∧ Sim base w0 g' (H ++ [.cells (es ++ xs) e]) w' ∧ R g' (.msl H.length 0 (es.length + xs.length)) v := by
  have hel : (es = [] ∧ ∃ a, s = .slice a 0 0) ∨ ∀ a, s ≠ .slice a 0 0 := by
    cases hs with
    | rnil a => exact .inl ⟨rfl, a, rfl⟩
    | rsl vs hn hl hc hm' hk' hf hr =>
      rcases es with _ | ⟨e0, es⟩
      · refine .inl ⟨rfl, ?_⟩
        rw [hn, hc rfl, hn]
        exact ⟨_, rfl⟩
      · refine .inr fun a h => ?_
        injection h with _ h2 _
        rw [h2] at hn
        simp at hn
  rcases hel with ⟨rfl, a, rfl⟩ | hne
  · cases a with
    | none => simpa using append_nil (ty := ty) S ht hi hz hzs hx h0 (by simpa using hm) (by simpa using hb)
    | some as =>
      obtain ⟨ad, c, us, rfl, hF, hus⟩ := hx.at_
      have hm0 : xs.length ≤ maxLen := by simpa using hm
      have hr := run_append_grow (P := P) w t ty e inf z ht hi hz as 0 0 [] (by simp) (by simp) ad xs.length c us hF.size hus (by omega) (by simp only [maxLen] at hm0; omega) (growslice_fits (by omega) (by simpa using hb))
      simp only [Nat.zero_add] at hr
      have hge := grownCap_ge w xs.length 0 e
      have hcm := grownCap_le_maxLen w xs.length 0 e hm0
      have hown := own_new S (w' := w.drew.alloc (.cells (#[] ++ us.toArray ++ Builtin.zeroCells z.cells (grownCap w xs.length 0 e - xs.length)) e))
        (cur := #[] ++ us.toArray ++ Builtin.zeroCells z.cells (grownCap w xs.length 0 e - xs.length)) (t := e) (cp := grownCap w xs.length 0 e) hF ?_ hge ?_ hcm
        ⟨rfl, rfl, rfl, by simp, fun k hk _ => heap_alloc_old w.drew _ k hk⟩ (heap_alloc_new w.drew _)
      · obtain ⟨g', h1, h2, h3⟩ := hown
        refine ⟨_, _, g', hr, h1, h2, ?_⟩
        simpa using h3
      · simp only [Array.size_append, List.size_toArray, size_zeroCells, hzs, hF.size, ← Nat.add_mul, List.size_toArray, List.length_nil, Nat.zero_add]
        congr 1
        omega
      · rw [← hF.size]
        simp
  obtain ⟨ad, c, us, rfl, hF, hus⟩ := hx.at_
  obtain ⟨as, cap, os, rfl, hcl, hce, hcm', hO, hos⟩ := rsl_flat S hs hk hlen hne
  have hce := hce rfl
  subst hce
  have hr := run_append_grow (P := P) w t ty e inf z ht hi hz as es.length es.length os hO.size hos ad xs.length c us hF.size hus (by omega) (by simp only [maxLen] at hm; omega) (growslice_fits (by omega) hb)
  have hge := grownCap_ge w (es.length + xs.length) es.length e
  have hcm := grownCap_le_maxLen w (es.length + xs.length) es.length e hm
  have hFO := hO.append hF
  have hown := own_new S (w' := w.drew.alloc (.cells (os.toArray ++ us.toArray ++ Builtin.zeroCells z.cells (grownCap w (es.length + xs.length) es.length e - (es.length + xs.length))) e))
    (cur := os.toArray ++ us.toArray ++ Builtin.zeroCells z.cells (grownCap w (es.length + xs.length) es.length e - (es.length + xs.length))) (t := e) (cp := grownCap w (es.length + xs.length) es.length e) hFO ?_ (by simpa using hge) ?_ hcm
    ⟨rfl, rfl, rfl, by simp, fun k hk _ => heap_alloc_old w.drew _ k hk⟩ (heap_alloc_new w.drew _)
  · obtain ⟨g', h1, h2, h3⟩ := hown
    simp only [List.length_append] at h3
    exact ⟨_, _, g', hr, h1, h2, h3⟩
  · simp only [Array.size_append, List.size_toArray, size_zeroCells, hzs, hF.size, hO.size, ← Nat.add_mul]
    congr 1
    omega
  · rw [← hFO.size]
    simp only [Array.toList_append, List.append_assoc]
    rw [← List.append_assoc, List.take_left]

/-- the row may lie in the same block under another number -/
theorem own_moved (S : Sim base w0 g H w) {b y : Nat} {ob : AObj} {es : List (List AV)} {us : List Value} {cur : Array Value} {t : TypeId} {k cp : Nat} (hb : H[b]? = some ob) (hn : ob ≠ .dead) (hy : g.ph b = some y)
    (hF : FRel g k es us) (hs : cur.size = cp * k) (hl : es.length ≤ cp) (ht : cur.toList.take (es.length * k) = us) (hm : cp ≤ maxLen) (hg : w.grownBy w' (some y)) (hx : w'.heap[y]? = some (.cells cur t (0, 0))) :
    ∃ g', g.le g' ∧ Sim base w0 g' (H.set b .dead ++ [.cells es t]) w' ∧ R g' (.msl H.length 0 es.length) (.slice (some ⟨y, 0, none⟩) es.length cp) := by
  have S' := S.turn (ob' := .dead) hb hn hy hg hx (.dead _)
  have hlen : (H.set b .dead).length = H.length := by simp
  have hle : g.le (g.phAdd H.length y k cp) := Gh.phAdd_le S.fresh
  refine ⟨_, hle, ?_, ?_⟩
  · have := S'.push (x := y) (k := k) (c := cp) (ob := .cells es t) (S.pos b y hy).1 (Nat.lt_of_lt_of_le (S.pos b y hy).2 hg.size) hx (S.sep b y ob hb hn hy).1 (S.sep b y ob hb hn hy).2
      (fun c oc hc hnc hyc => ?_) ?_
    · simpa [hlen] using this
    · rw [List.getElem?_set] at hc
      split at hc
      · split at hc
        · cases hc; exact hnc rfl
        · cases hc
      · rename_i hne
        exact hne (S.inj b c y ob oc hb hn hc hnc hy hyc)
    · rw [hlen]
      exact (hF.mono hle).orel hs hl ht
  · have : R (g.phAdd H.length y k cp) (.msl H.length 0 es.length) (.slice (some ⟨y, 0 * (g.phAdd H.length y k cp).ks H.length, none⟩) es.length cp) :=
      .msl (by simp [Gh.phAdd]) hl (by simp [Gh.phAdd]) hm
    simpa using this

theorem append_own (S : Sim base w0 g H w) (ht : P.underlying t = some (.slice e)) (hi : P.info? e = some inf) (hz : inf.zero = some z) (hzs : z.cells.size = inf.size) (hk : 0 < inf.size)
    {b len : Nat} {es : List (List AV)} {s : Value} (hs : R g (.msl b 0 len) s) (hb : H[b]? = some (.cells es e)) (hfit : len ≤ es.length) (h0 : 0 < es.length) (hlen : es.all (fun e => e.length == inf.size) = true)
    (hx : Src w g inf.size xs x) (hc : xs.all (fun e => e.all AV.isCell) = true) (hm : len + xs.length ≤ maxLen) (hbytes : (len + xs.length) * inf.bytes ≤ 140737488355328) :
    ∃ v w' g', (Builtin.append_ #[t, t] ty #[s, x]).run P w = .ok v w' ∧ g.le g' ∧ Sim base w0 g' (H.set b .dead ++ [.cells (es.take len ++ xs) e]) w' ∧ R g' (.msl H.length 0 (len + xs.length)) v := by
  obtain ⟨ad, c, us, rfl, hF, hus⟩ := hx.at_
  obtain ⟨y, cap, cur, rfl, hy, hks, hlc, hcc, hcm, hw, hcur, hO⟩ := msl_flat S hs hb (by omega) hlen h0
  simp only [Nat.zero_mul, List.drop_zero] at hO ⊢
  have hcp : g.cp b = cap := by omega
  rw [hcp] at hcur
  have hFO := hO.append hF
  have hlt : (es.take len ++ xs).length = len + xs.length := by simp; omega
  have h1 := hF.one hc hk
  by_cases hroom : len + xs.length ≤ cap
  · have e1 := Nat.mul_le_mul_right inf.size hroom
    have e2 := Nat.add_mul len xs.length inf.size
    have hr := run_append_room (P := P) w t ty e inf ht hi y len cap cur hw ad xs.length c us hF.size hus h1 hroom (by rw [hF.size]; omega)
    obtain ⟨g', h1, h2, h3⟩ := own_moved S hb (by simp) hy (w' := w.setRow y (cur.toList.take (len * inf.size) ++ us ++ cur.toList.drop (len * inf.size + us.length)).toArray) (t := e)
      (cur := (cur.toList.take (len * inf.size) ++ us ++ cur.toList.drop (len * inf.size + us.length)).toArray) (cp := cap) hFO
      (by simp only [List.size_toArray, List.length_append, List.length_take, List.length_drop, Array.length_toList, hF.size]; omega) (by rw [hlt]; exact hroom)
      (by rw [← hFO.size]; exact List.take_left) hcm ⟨rfl, rfl, rfl, by simp [World.setRow], fun k _ hk => setRow_other w y k _ (fun e => hk (by simp [e]))⟩ (setRow_heap w y cur _ e _ hw)
    rw [hlt] at h3
    exact ⟨_, _, g', hr, h1, h2, h3⟩
  · have hr := run_append_grow (P := P) w t ty e inf z ht hi hz ⟨y, 0, none⟩ len cap (cur.toList.take (len * inf.size))
      (by rw [hO.size, List.length_take, Nat.min_eq_left hfit]) (fun j u hu => by
        rw [List.getElem?_take] at hu
        split at hu
        · rw [add_none, Nat.zero_add, cell_of_cells hw]; simpa using hu
        · cases hu) ad xs.length c us hF.size hus (by omega) (by simp only [maxLen] at hm; omega) (growslice_fits (by omega) hbytes)
    have hge := grownCap_ge w (len + xs.length) cap e
    have hcm' := grownCap_le_maxLen w (len + xs.length) cap e hm
    have S' := S.dead b
    have hown := own_new S' (w' := w.drew.alloc (.cells ((cur.toList.take (len * inf.size)).toArray ++ us.toArray ++ Builtin.zeroCells z.cells (grownCap w (len + xs.length) cap e - (len + xs.length))) e))
      (cur := (cur.toList.take (len * inf.size)).toArray ++ us.toArray ++ Builtin.zeroCells z.cells (grownCap w (len + xs.length) cap e - (len + xs.length))) (t := e) (cp := grownCap w (len + xs.length) cap e) hFO ?_ (by rw [hlt]; exact hge) ?_ hcm'
      ⟨rfl, rfl, rfl, by simp, fun k hk _ => heap_alloc_old w.drew _ k hk⟩ (heap_alloc_new w.drew _)
    · obtain ⟨g', h1, h2, h3⟩ := hown
      rw [hlt] at h3
      simp only [List.length_set] at h3
      exact ⟨_, _, g', hr, h1, h2, h3⟩
    · have := hO.size
      simp only [List.length_take] at this
      rw [show min len es.length = len by omega] at this
      simp only [Array.size_append, List.size_toArray, List.length_take, size_zeroCells, hzs, hF.size, this, ← Nat.add_mul]
      congr 1
      omega
    · rw [← hFO.size]
      simp only [Array.toList_append, List.append_assoc]
      rw [← List.append_assoc, List.take_left]

end append

end Go.Proofs.Ytdmgljlabigljaa.Ab

namespace Go.Proofs.Ytdmgljlabigljaa.Ab
open Go Go.RowKit

variable {base : Nat} {w0 w w' : World} {g : Gh} {H : Hp} {P : Program}

theorem made_rel (g : Gh) {z : Array Value} {k n : Nat} (hz : z.size = k) (_hk : 0 < k) : FRel g k (List.replicate n (z.toList.map .val)) (madeCells z (n * k)).toList := by
  refine ⟨by simp [madeCells], fun i e he => ?_, fun i e j c he hc => ?_⟩
  · rw [List.getElem?_replicate] at he
    split at he
    · cases he; simpa using hz
    · cases he
  · rw [List.getElem?_replicate] at he
    split at he
    · rename_i hi
      cases he
      simp only [List.getElem?_map, Array.getElem?_toList, Option.map_eq_some_iff] at hc
      obtain ⟨v, hv, rfl⟩ := hc
      have hj : j < k := by rw [← hz]; exact (Array.getElem?_eq_some_iff.1 hv).1
      refine ⟨v, ?_, .val v⟩
      have hlt := idx_lt hi hj
      simp only [madeCells, Array.toList_map, Array.toList_range, List.getElem?_map, List.getElem?_range hlt, Option.map_some, Option.some.injEq]
      have e2 : (i * k + j) % k = j := by rw [Nat.mul_comm, Nat.mul_add_mod, Nat.mod_eq_of_lt hj]
      rw [hz, e2]
      have := (Array.getElem?_eq_some_iff.1 hv).2
      rw [← this]
      exact getElem!_pos z j (by omega)
    · cases he

theorem FRel.set {k : Nat} {es : List (List AV)} {us : List Value} (h : FRel g k es us) {i : Nat} {cs : List AV} {vs : Array Value} (hi : i < es.length) (hc : RCells g cs vs) (hk : cs.length = k) :
    i * k + vs.size ≤ us.length ∧ FRel g k (es.set i cs) (setAt us (i * k) vs.toList) := by
  have he : es[i]? = some es[i] := by simp [hi]
  have ho : ORel g k es.length (.cells es 0) (.cells us.toArray 0 (0, 0)) := h.orel (by simpa using h.size) (Nat.le_refl _) (by rw [← h.size]; simp)
  have hw := ORel.write (off := 0) ho he (by rw [h.len i _ he, hk]; omega) hc
  have hsz := hc.size
  have hset : setAt es[i] 0 cs = cs := by
    have := h.len i _ he
    simp [setAt, this, hk]
  refine ⟨by simpa using hw.1, ?_⟩
  have h2 := hw.2
  rw [hset] at h2
  cases h2 with
  | cells hs hl hk' hr =>
    refine ⟨by simpa using hs, hk', fun i' e j c he hc => ?_⟩
    obtain ⟨v, hv, hR⟩ := hr i' e j c he hc
    exact ⟨v, by simpa using hv, hR⟩

def fillE (k : Nat) (es : List (List AV)) : List (Nat × AV) → Option (List (List AV))
  | [] => some es
  | (i, v) :: rest => if v.cells.length = k ∧ i < es.length then fillE k (es.set i v.cells) rest else none

theorem fillE_length (k : Nat) : ∀ (ps : List (Nat × AV)) (es out : List (List AV)), fillE k es ps = some out → out.length = es.length
  | [], es, out, h => by simp only [fillE, Option.some.injEq] at h; rw [h]
  | (i, v) :: rest, es, out, h => by
    simp only [fillE] at h
    split at h
    · rw [fillE_length k rest _ _ h]; simp
    · cases h

theorem fillE_run (k : Nat) : ∀ (ps : List (Nat × AV)) (qs : List (Nat × Value)) (es : List (List AV)) (us : List Value) (out : List (List AV)),
    FRel g k es us → ps.length = qs.length → (∀ (n : Nat) (p : Nat × AV) (q : Nat × Value), ps[n]? = some p → qs[n]? = some q → p.1 = q.1 ∧ R g p.2 q.2) → fillE k es ps = some out →
    ∃ os : List Value, Instr.fill (fun i => some (i * k, k)) us.toArray qs = some os.toArray ∧ FRel g k out os
  | [], [], es, us, out, h, _, _, e => by simp only [fillE, Option.some.injEq] at e; subst e; exact ⟨us, rfl, h⟩
  | [], _ :: _, _, _, _, _, hl, _, _ => by simp at hl
  | _ :: _, [], _, _, _, _, hl, _, _ => by simp at hl
  | (i, a) :: ps, (i', v) :: qs, es, us, out, h, hl, hr, e => by
    obtain ⟨e0, hR⟩ := hr 0 (i, a) (i', v) rfl rfl
    simp only at e0; subst e0
    have hc := hR.cells
    simp only at hc
    have hsz := hc.size
    simp only [fillE] at e
    split at e
    · rename_i hif
      obtain ⟨hk, hi⟩ := hif
      obtain ⟨hfit, hF⟩ := h.set hi hc hk
      obtain ⟨os, h1, h2⟩ := fillE_run k ps qs _ _ out hF (by simpa using hl) (fun n p q hp hq => hr (n + 1) p q (by simpa using hp) (by simpa using hq)) e
      refine ⟨os, ?_, h2⟩
      rw [← h1]
      simp only [Instr.fill]
      rw [if_neg (by simp only [Bool.or_eq_true, decide_eq_true_eq, not_or, List.size_toArray]; omega)]
      congr 1
      have := foldset (i * k) v.cells.toList 0 us.toArray (by simp; omega)
      apply Array.ext'
      rw [← Array.foldl_toList, Array.toList_zipIdx]
      simpa using this
    · cases e

/-- a literal of a slice: its elements -/
def litA (P : Program) (t : TypeId) (len : Nat) (ps : List (Nat × AV)) : Option (List (List AV) × TypeId) :=
  match P.underlying t with
  | some (.slice e) => match P.info? e with
    | some inf => match inf.zero with
      | some z => if z.cells.size = inf.size ∧ 0 < inf.size ∧ len * inf.size ≤ 16777216 then (fillE inf.size (List.replicate len (z.cells.toList.map .val)) ps).map fun es => (es, e) else none
      | none => none
    | none => none
  | _ => none

theorem lit_run {t e : TypeId} {len : Nat} {ps : List (Nat × AV)} {qs : Array (Nat × Value)} {es : List (List AV)} (h : litA P t len ps = some (es, e)) (hl : ps.length = qs.size)
    (hr : ∀ (n : Nat) (p : Nat × AV) (q : Nat × Value), ps[n]? = some p → qs[n]? = some q → p.1 = q.1 ∧ R g p.2 q.2) :
    ∃ (k : Nat) (us : List Value), (Instr.buildSlice t len qs).run P w = .ok (.slice (some ⟨w.heap.size, 0, none⟩) len len) (w.alloc (.cells us.toArray e)) ∧ FRel g k es us ∧ es.length = len ∧ len ≤ maxLen := by
  unfold litA at h
  split at h
  · rename_i e' hu
    split at h
    · rename_i inf hi
      split at h
      · rename_i z hz
        split at h
        · rename_i hif
          obtain ⟨hzs, hk, hfit⟩ := hif
          simp only [Option.map_eq_some_iff, Prod.mk.injEq] at h
          obtain ⟨es', hes, rfl, rfl⟩ := h
          obtain ⟨us, h1, h2⟩ := fillE_run inf.size ps qs.toList _ _ es' (made_rel g hzs hk) (by simpa using hl) (fun n p q hp hq => hr n p q hp (by simpa using hq)) hes
          have hlen := fillE_length _ _ _ _ hes
          simp only [List.length_replicate] at hlen
          have hml : len ≤ maxLen := by
            have := Nat.le_mul_of_pos_right len hk
            simp only [maxLen]; omega
          refine ⟨inf.size, us, ?_, h2, hlen, hml⟩
          have hno : ¬ (len * inf.size > 2 ^ 24) := by omega
          simp only [Instr.buildSlice, Sem.run_bind, run_underlying hu, Result.andThen_ok, run_sizeOf _ _ hi]
          rw [if_neg hno]
          rw [Array.toArray_toList] at h1
          by_cases h0 : len * inf.size = 0
          · rw [if_pos h0]
            have hm : (Array.range (len * inf.size)).map (fun x => (#[] : Array Value)[x % (#[] : Array Value).size]!) = madeCells z.cells (len * inf.size) := by simp [h0, madeCells]
            simp only [Sem.run_bind, Sem.run_pure, Result.andThen_ok, hm, h1]
            simp [newRow]
          · rw [if_neg h0]
            have hm : (Array.range (len * inf.size)).map (fun x => z.cells[x % z.cells.size]!) = madeCells z.cells (len * inf.size) := rfl
            simp only [Sem.run_bind, zeroValue, typeInfo, run_program, hi, hz, Sem.run_pure, Result.andThen_ok, hm, h1]
            simp [newRow]
        · cases h
      · cases h
    · cases h
  · cases h

/-- frozen -/
theorem lit_fz (S : Sim base w0 g H w) {es : List (List AV)} {us : List Value} {k : Nat} (hF : FRel g k es us) (hm : es.length ≤ maxLen) (t : TypeId) :
    ∃ g', g.le g' ∧ Sim base w0 g' H (w.alloc (.cells us.toArray t)) ∧ R g' (.rsl es true) (.slice (some ⟨w.heap.size, 0, none⟩) es.length es.length) := by
  have hle := S.fzAdd_le us.toArray
  refine ⟨_, hle, S.allocFz us.toArray t, ?_⟩
  refine R.rsl (o := 0) (k := k) (fun i j => us[i * k + j]?.getD undef) rfl (Nat.le_refl _) (fun _ => rfl) hm hF.len (fun i j hi hj => ?_) (fun i e j c he hc => ?_)
  · show (if w.heap.size = w.heap.size then us.toArray[0 + i * k + j]? else _) = _
    rw [if_pos rfl, Nat.zero_add]
    have : i * k + j < us.length := by rw [hF.size]; exact idx_lt hi hj
    simp [this]
  · obtain ⟨v, hv, hR⟩ := hF.cell i e j c he hc
    simp only [hv, Option.getD_some]
    exact hR.mono hle

/-- make([]T, n) -/
def makeA (P : Program) (t : TypeId) (n : Int) : Option (List (List AV) × TypeId) :=
  match P.underlying t with
  | some (.slice e) => match P.info? e with
    | some inf => match inf.zero with
      | some z => if z.cells.size = inf.size ∧ 0 < inf.size ∧ 0 ≤ n ∧ inf.bytes * n ≤ 281474976710656 ∧ n ≤ 9223372036854775807 then some (List.replicate n.toNat (z.cells.toList.map .val), e) else none
      | none => none
    | none => none
  | _ => none

theorem make_own (S : Sim base w0 g H w) {t e : TypeId} {n : Int} {kl kc : IntKind} {es : List (List AV)} (h : makeA P t n = some (es, e)) :
    ∃ v w' g', (Instr.makeSlice t (.int kl n) (.int kc n)).run P w = .ok v w' ∧ g.le g' ∧ Sim base w0 g' (H ++ [.cells es e]) w' ∧ R g' (.msl H.length 0 n.toNat) v := by
  unfold makeA at h
  split at h
  · rename_i e' hu
    split at h
    · rename_i inf hi
      split at h
      · rename_i z hz
        split at h
        · rename_i hif
          obtain ⟨hzs, hk, hn, hb, hm⟩ := hif
          cases h
          have hr := run_make (P := P) w t e inf z hu hi hz kl kc n n hn (Int.le_refl _) hb hm
          have hF := made_rel g (n := n.toNat) hzs hk
          obtain ⟨g', h1, h2, h3⟩ := own_new S (w' := w.alloc (.cells (madeCells z.cells (n.toNat * inf.size)) e)) (cur := madeCells z.cells (n.toNat * inf.size)) (t := e) (cp := n.toNat) hF
            (by simp [madeCells]) (by simp) (by rw [← hF.size, List.take_length]) (by simp only [maxLen]; omega) (World.grownBy_alloc w _ none) (heap_alloc_new w _)
          simp only [List.length_replicate] at h3
          exact ⟨_, _, g', hr, h1, h2, h3⟩
        · cases h
      · cases h
    · cases h
  · cases h

/-! ### slices of slices -/

def bnd (d : Nat) : Option AV → Option Nat
  | none => some d
  | some (.val (.int _ i)) => if 0 ≤ i then some i.toNat else none
  | _ => none

theorem bnd_some (d d' : Nat) (x : AV) : bnd d (some x) = bnd d' (some x) := by
  cases x with
  | val v => cases v <;> rfl
  | _ => rfl

def sliceA (P : Program) (t : TypeId) (x : AV) (lo hi mx : Option AV) : Option AV :=
  match P.underlying t with
  | some (.slice e) => match P.info? e with
    | some inf => match x with
      | .rsl es ex => match bnd 0 lo, bnd es.length hi, bnd es.length mx with
        | some l, some h, some m =>
          if l ≤ h ∧ h ≤ m ∧ m ≤ es.length ∧ (l = h ∨ (es[l]?).map List.length = some inf.size) ∧ (mx.isSome → hi.isSome) then
            some (.rsl ((es.take h).drop l) (if mx.isSome then m == h else ex && h == es.length)) else none
        | _, _, _ => none
      | .msl b off len => match bnd 0 lo, bnd len hi, mx with
        | some l, some h, none => if l ≤ h ∧ h ≤ len then (if l = 0 then some (.msl b off h) else if l = h then some (.rsl [] false) else none) else none
        | _, _, _ => none
      | .val (.slice none 0 0) => match bnd 0 lo, bnd 0 hi, mx with
        | some l, some h, none => if l ≤ h ∧ h ≤ 0 then some (.val (.slice none 0 0)) else none
        | _, _, _ => none
      | _ => none
    | none => none
  | _ => none

def ROpt (g : Gh) : Option AV → Option Value → Prop
  | none, none => True
  | some a, some v => R g a v
  | _, _ => False

theorem bound_run {x : AV} {u : Value} {d n y : Nat} {c : BoundsCode} (h : bnd d (some x) = some n) (hr : R g x u) (hy : n ≤ y) : (Instr.sliceBound u y c).run P w = .ok n w := by
  unfold bnd at h
  split at h
  · rename_i e; cases e
  · rename_i k i e
    cases e
    split at h
    · rename_i h0
      cases h
      cases hr
      simp only [Instr.sliceBound, asIntOf, Sem.run_bind, Sem.run_pure, Result.andThen_ok]
      rw [if_pos (by omega)]
      rfl
    · cases h
  · cases h

theorem bounds_run {lo hi mx : Option AV} {lov hiv mxv : Option Value} {len cap l h m : Nat} (hl : bnd 0 lo = some l) (hh : bnd len hi = some h) (hm : bnd cap mx = some m)
    (r1 : ROpt g lo lov) (r2 : ROpt g hi hiv) (r3 : ROpt g mx mxv) (h1 : l ≤ h) (h2 : h ≤ m) (h3 : m ≤ cap) (h4 : mx.isSome = true → hi.isSome = true) :
    (Instr.sliceBounds true len cap lov hiv mxv).run P w = .ok (l, h, m) w := by
  have em : (match mxv with
      | some v => Instr.sliceBound v cap (if true = true then .slice3Acap else .slice3Alen)
      | none => (Pure.pure cap : Sem Nat)).run P w = .ok m w := by
    cases mx with
    | none => cases mxv with
      | none => simp only [bnd, Option.some.injEq] at hm; subst hm; rfl
      | some v => cases r3
    | some x => cases mxv with
      | none => cases r3
      | some v => exact bound_run hm r3 h3
  unfold Instr.sliceBounds
  cases mx with
  | none => cases mxv with
    | some v => cases r3
    | none =>
      simp only [bnd, Option.some.injEq] at hm
      subst hm
      cases hi with
      | none => cases hiv with
        | some v => cases r2
        | none =>
          simp only [bnd, Option.some.injEq] at hh
          subst hh
          cases lo with
          | none => cases lov with
            | some v => cases r1
            | none => simp only [bnd, Option.some.injEq] at hl; subst hl; rfl
          | some y => cases lov with
            | none => cases r1
            | some v =>
              have := bound_run (P := P) (w := w) (c := .sliceB) hl r1 h1
              simp [this]
      | some z => cases hiv with
        | none => cases r2
        | some v =>
          have e2 := bound_run (P := P) (w := w) (c := .sliceAcap) hh r2 h2
          cases lo with
          | none => cases lov with
            | some v => cases r1
            | none => simp only [bnd, Option.some.injEq] at hl; subst hl; simp [e2]
          | some y => cases lov with
            | none => cases r1
            | some v =>
              have := bound_run (P := P) (w := w) (c := .sliceB) hl r1 h1
              simp [e2, this]
  | some x => cases mxv with
    | none => cases r3
    | some xv =>
      have e3 := bound_run (P := P) (w := w) (c := .slice3Acap) hm r3 h3
      cases hi with
      | none => exact absurd (h4 rfl) (by simp)
      | some z => cases hiv with
        | none => cases r2
        | some v =>
          have e2 := bound_run (P := P) (w := w) (c := .slice3B) hh r2 h2
          cases lo with
          | none => cases lov with
            | some v => cases r1
            | none => simp only [bnd, Option.some.injEq] at hl; subst hl; simp [e2, e3]
          | some y => cases lov with
            | none => cases r1
            | some v =>
              have := bound_run (P := P) (w := w) (c := .slice3C) hl r1 h1
              simp [e2, e3, this]

theorem slice_run {t : TypeId} {x a : AV} {xv : Value} {lo hi mx : Option AV} {lov hiv mxv : Option Value} (h : sliceA P t x lo hi mx = some a) (hx : R g x xv)
    (r1 : ROpt g lo lov) (r2 : ROpt g hi hiv) (r3 : ROpt g mx mxv) : ∃ v, (Instr.sliceAt t xv lov hiv mxv).run P w = .ok v w ∧ R g a v := by
  unfold sliceA at h
  split at h
  · rename_i e hu
    split at h
    · rename_i inf hi'
      split at h
      · rename_i es ex
        split at h
        · rename_i l hh m el eh em
          split at h
          · rename_i hif
            obtain ⟨h1, h2, h3, h4, h5⟩ := hif
            cases h
            cases hx with
            | rnil ad =>
              have hb : ∃ M, bnd 0 mx = some M ∧ hh ≤ M ∧ M ≤ 0 := by
                cases mx with
                | none => exact ⟨0, rfl, Nat.le_trans h2 h3, Nat.le_refl _⟩
                | some y => exact ⟨m, (bnd_some _ _ y).trans em, h2, h3⟩
              obtain ⟨M, hM, hM1, hM2⟩ := hb
              have hrun := bounds_run (P := P) (w := w) el eh hM r1 r2 r3 h1 hM1 hM2 h5
              have e1 : M = 0 := by omega
              have e2 : hh = 0 := by omega
              have e3 : l = 0 := by omega
              subst e1; subst e2; subst e3
              refine ⟨.slice ad 0 0, ?_, ?_⟩
              · simp only [Instr.sliceAt, Instr.slice, Sem.run_bind, run_underlying hu, Result.andThen_ok, run_sizeOf _ _ hi', Sem.run_pure]
                have hrun' : Sem.run P (Instr.sliceBounds true 0 0 lov hiv mxv) w = Result.ok (0, 0, 0) w := hrun
                cases ad <;> simp [hrun'] <;> try rfl
              · simpa using R.rnil ad
            | rsl vs hn hl hc hmx hk hf hr =>
              rename_i b o k n cap
              subst hn
              -- the bound that the machine takes
              have hb : ∃ M, bnd cap mx = some M ∧ hh ≤ M ∧ M ≤ cap ∧ (mx.isSome = true → M = m) ∧ (mx = none → M = cap) := by
                cases mx with
                | none => exact ⟨cap, rfl, by omega, Nat.le_refl _, by simp, fun _ => rfl⟩
                | some y =>
                  exact ⟨m, (bnd_some _ _ y).trans em, h2, by omega, fun _ => rfl, by simp⟩
              obtain ⟨M, hM, hM1, hM2, hM3, hM4⟩ := hb
              have hrun := bounds_run (P := P) (w := w) el eh hM r1 r2 r3 h1 hM1 hM2 h5
              have hln : ((es.take hh).drop l).length = hh - l := by simp; omega
              have hR : ∀ (ad : Option Addr), ad = (if M = l then some ⟨b, o, none⟩ else (some ⟨b, o, none⟩ : Option Addr).map (·.add (l * inf.size))) →
                  R g (.rsl ((es.take hh).drop l) (if mx.isSome then m == hh else ex && hh == es.length)) (.slice ad (hh - l) (M - l)) := by
                intro ad had
                have hcap : (if mx.isSome = true then m == hh else ex && hh == es.length) = true → M - l = hh - l := by
                  intro hc'
                  cases mx with
                  | none =>
                    simp only [Option.isSome_none, Bool.false_eq_true, if_false, Bool.and_eq_true, beq_iff_eq] at hc'
                    have := hc hc'.1
                    have := hM4 rfl
                    omega
                  | some y =>
                    simp only [Option.isSome_some, if_true, beq_iff_eq] at hc'
                    have := hM3 rfl
                    omega
                by_cases hlh : l = hh
                · subst hlh
                  have e0 : ((es.take l).drop l) = [] := by simp
                  have hex : ∃ b' o', ad = some ⟨b', o', none⟩ := by
                    subst had
                    split
                    · exact ⟨_, _, rfl⟩
                    · exact ⟨_, _, by rw [Option.map_some, add_none]⟩
                  obtain ⟨b', o', rfl⟩ := hex
                  rw [e0]
                  exact R.rsl (k := k) (fun _ _ => undef) (by simp) (by omega) hcap (by omega) (by simp) (by simp) (by simp)
                · have hsz : k = inf.size := by
                    rcases h4 with h4 | h4
                    · exact absurd h4 hlh
                    · simp only [Option.map_eq_some_iff] at h4
                      obtain ⟨e', he', hs⟩ := h4
                      rw [← hs, hk _ _ he']
                  subst had
                  have hne : ¬ M = l := by omega
                  rw [if_neg hne, Option.map_some, add_none]
                  refine R.rsl (k := k) (fun i j => vs (l + i) j) hln.symm (by omega) hcap (by omega) (fun i e' he' => ?_) (fun i j hi hj => ?_) (fun i e' j c he' hc' => ?_)
                  · rw [List.getElem?_drop, List.getElem?_take] at he'
                    split at he'
                    · exact hk _ _ he'
                    · cases he'
                  · rw [hln] at hi
                    rw [← hsz]
                    have := hf (l + i) j (by omega) hj
                    rw [Nat.add_mul] at this
                    rw [← this]
                    congr 1
                    omega
                  · rw [List.getElem?_drop, List.getElem?_take] at he'
                    split at he'
                    · exact hr _ _ _ _ he' hc'
                    · cases he'
              refine ⟨_, ?_, hR _ rfl⟩
              simp only [Instr.sliceAt, Instr.slice, Sem.run_bind, run_underlying hu, Result.andThen_ok, hrun, run_sizeOf _ _ hi', Sem.run_pure]
          · cases h
        · cases h
      · rename_i b off len
        split at h
        · rename_i l hh el eh
          split at h
          · rename_i hif
            obtain ⟨h1, h2⟩ := hif
            cases hx with
            | msl hph hl hc hmx =>
              rename_i y cap
              have hrun := bounds_run (P := P) (w := w) (g := g) (mx := none) (mxv := mxv) (cap := cap) el eh rfl r1 r2 (by cases mxv <;> first | trivial | exact r3) h1 (by omega) (Nat.le_refl _) (by simp)
              split at h
              · rename_i h0
                subst h0
                cases h
                refine ⟨.slice (some ⟨y, off * g.ks b, none⟩) hh cap, ?_, .msl hph (by omega) hc hmx⟩
                simp only [Instr.sliceAt, Instr.slice, Sem.run_bind, run_underlying hu, Result.andThen_ok, hrun, run_sizeOf _ _ hi', Sem.run_pure, Nat.zero_mul, Nat.sub_zero]
                congr 2
                split
                · rfl
                · rw [Option.map_some, add_none, Nat.add_zero]
              · split at h
                · rename_i h0 hlh
                  cases h
                  subst hlh
                  have hex : ∃ b' o', (if cap = l then some ⟨y, off * g.ks b, none⟩ else (some ⟨y, off * g.ks b, none⟩ : Option Addr).map (·.add (l * inf.size))) = some ⟨b', o', none⟩ := by
                    split
                    · exact ⟨_, _, rfl⟩
                    · exact ⟨_, _, by rw [Option.map_some, add_none]⟩
                  obtain ⟨b', o', hbo⟩ := hex
                  refine ⟨.slice (some ⟨b', o', none⟩) (l - l) (cap - l), ?_, R.rsl (k := 0) (fun _ _ => undef) (by simp) (by omega) (by simp) (by omega) (by simp) (by simp) (by simp)⟩
                  simp only [Instr.sliceAt, Instr.slice, Sem.run_bind, run_underlying hu, Result.andThen_ok, hrun, run_sizeOf _ _ hi', Sem.run_pure, hbo]
                · cases h
          · cases h
        · cases h
      · split at h
        · rename_i l hh el eh
          split at h
          · rename_i hif
            obtain ⟨h1, h2⟩ := hif
            cases h
            cases hx
            have hrun := bounds_run (P := P) (w := w) (g := g) (mx := none) (mxv := mxv) (cap := 0) el eh rfl r1 r2 (by cases mxv <;> first | trivial | exact r3) h1 h2 (Nat.le_refl _) (by simp)
            have e2 : hh = 0 := by omega
            have e3 : l = 0 := by omega
            subst e2; subst e3
            refine ⟨.slice none 0 0, ?_, .val _⟩
            simp only [Instr.sliceAt, Instr.slice, Sem.run_bind, run_underlying hu, Result.andThen_ok, hrun, run_sizeOf _ _ hi', Sem.run_pure]
            simp
          · cases h
        · cases h
      · cases h
    · cases h
  · cases h

end Go.Proofs.Ytdmgljlabigljaa.Ab

namespace Go.Proofs.Ytdmgljlabigljaa.Ab
open Go Go.RowKit

variable {w : World} {P : Program}

def eqFs (rec : TypeId → Value → Value → Option Bool) (P : Program) (xs ys : Array Value) : List Field → Option Bool
  | [] => some true
  | f :: fs => if f.name ≠ "_" then
      match pureRun P (part f.type xs f.offset), pureRun P (part f.type ys f.offset) with
      | some a, some b => match rec f.type a b, eqFs rec P xs ys fs with
        | some p, some q => some (p && q)
        | _, _ => none
      | _, _ => none
    else eqFs rec P xs ys fs

def eqB (P : Program) : Nat → TypeId → Value → Value → Option Bool
  | 0, _, _, _ => none
  | d + 1, t, x, y => match P.underlying t, x, y with
    | some .bool, .bool a, .bool b => some (a == b)
    | some (.int _), .int k a, .int k' b => if k = k' then some (a == b) else none
    | some .string, .string a, .string b => some (a == b)
    | some (.struct fs), .agg xs, .agg ys => if P.stoodInHeld t = false then eqFs (eqB P d) P xs ys fs.toList else none
    | _, _, _ => none

theorem eqFs_run {rec : TypeId → Value → Value → Option Bool} {d : Nat} {xs ys : Array Value} (h : ∀ t x y r, rec t x y = some r → (Op.equalIn d t x y).run P w = .ok r w) :
    ∀ (fs : List Field) (r : Bool), eqFs rec P xs ys fs = some r → (Op.eqFields d xs ys fs).run P w = .ok r w
  | [], r, hr => by
    cases hr
    rfl
  | f :: fs, r, hr => by
    unfold eqFs at hr
    unfold Op.eqFields
    split at hr
    · rename_i hn
      rw [if_pos hn]
      split at hr
      · rename_i a b ha hb
        split at hr
        · rename_i p q hp hq
          cases hr
          simp only [Sem.run_bind, pureRun_run ha w, pureRun_run hb w, h _ _ _ _ hp, Result.andThen_ok]
          cases p
          · simp
          · simpa using eqFs_run h fs q hq
        · cases hr
      · cases hr
    · rename_i hn
      rw [if_neg hn]
      exact eqFs_run h fs r hr

theorem eqB_run : ∀ (d : Nat) (t : TypeId) (x y : Value) (r : Bool), eqB P d t x y = some r → (Op.equalIn d t x y).run P w = .ok r w
  | 0, t, x, y, r, h => by cases h
  | d + 1, t, x, y, r, h => by
    unfold eqB at h
    split at h
    · rename_i hu
      cases h
      simp [Op.equalIn, run_underlying hu]
    · rename_i hu
      split at h
      · rename_i hk
        cases h
        simp [Op.equalIn, run_underlying hu, hk]
      · cases h
    · rename_i hu
      cases h
      simp [Op.equalIn, run_underlying hu]
    · rename_i fs xs ys hu
      split at h
      · rename_i hs
        have hf : P.fieldsOf t = fs := by simp [Program.fieldsOf, hu]
        rw [run_equalIn_struct (P := P) w d t xs ys (by rw [hf]; exact hu) hs, hf]
        exact eqFs_run (fun t x y r h => eqB_run d t x y r h) _ _ h
      · cases h
    · cases h

end Go.Proofs.Ytdmgljlabigljaa.Ab

namespace Go.Proofs.Ytdmgljlabigljaa.Ab
open Go Go.RowKit

variable {base : Nat} {w0 w w' : World} {g : Gh} {H : Hp} {P : Program}

def evA (T : Env) : Operand → AV
  | .tmp t => T t
  | .const v => .val v
  | .global x => .val (.pointer (some ⟨x, 0, none⟩))
  | .func f => .fn (.func f) []

theorem evA_rel {n : Nat} {T : Env} {a : Act} (h : TRel g n T a.tmps) (x : Operand) : R g (evA T x) (a.eval x) := by
  cases x with
  | tmp t => exact h.slot t
  | const v => exact .val v
  | global x => exact .val _
  | func f => exact .fn (by simp) (by simp) (by simp)

def intA (P : Program) (op : BinOp) (t : TypeId) (k : IntKind) (m : Int) (k' : IntKind) (n : Int) : Option AV :=
  match op with
  | .add => if k = k' then some (.val (.int k (k.wrap (m + n)))) else none
  | .sub => if k = k' then some (.val (.int k (k.wrap (m - n)))) else none
  | .mul => if k = k' then some (.val (.int k (k.wrap (m * n)))) else none
  | .quo => if k = k' ∧ n ≠ 0 then some (.val (.int k (k.wrap (m.tdiv n)))) else none
  | .rem => if k = k' ∧ n ≠ 0 then some (.val (.int k (m.tmod n))) else none
  | .eql => if k = k' then some (.val (.bool (m == n))) else none
  | .neq => if k = k' then some (.val (.bool (m != n))) else none
  | .lss => if k = k' then some (.val (.bool (decide (m < n)))) else none
  | .leq => if k = k' then some (.val (.bool (decide (m ≤ n)))) else none
  | .gtr => if k = k' then some (.val (.bool (decide (m > n)))) else none
  | .geq => if k = k' then some (.val (.bool (decide (m ≥ n)))) else none
  | _ => (pureRun P (binOp op t (.int k m) (.int k' n))).map .val

theorem intA_run {op : BinOp} {t : TypeId} {k k' : IntKind} {m n : Int} {a : AV} (h : intA P op t k m k' n = some a) : ∃ v, (binOp op t (.int k m) (.int k' n)).run P w = .ok v w ∧ a = .val v := by
  unfold intA at h
  split at h
  all_goals first
    | (simp only [Option.map_eq_some_iff] at h
       obtain ⟨v, hv, rfl⟩ := h
       exact ⟨v, pureRun_run hv w, rfl⟩)
    | (split at h
       · rename_i hk
         cases h
         first
          | (subst hk; exact ⟨_, by simp [binOp, Op.intArith, Op.intCmp], rfl⟩)
          | (obtain ⟨rfl, hn⟩ := hk; exact ⟨_, by simp [binOp, Op.intDiv, hn], rfl⟩)
       · cases h)

theorem eqGuard_int (op : BinOp) (t : TypeId) (x y : Operand) (k k' : IntKind) (m n : Int) : (eqGuard op t x y (.int k m) (.int k' n)).run P w = .ok () w := by
  unfold eqGuard; cases op <;> rfl

/-- has a value an address, so that it is no nil? -/
def AV.some? : AV → Bool
  | .rptr .. => true
  | .mptr .. => true
  | .rsl (_ :: _) _ => true
  | .msl .. => true
  | .mp .. => true
  | .fn .. => true
  | _ => false

def isNil : AV → Bool
  | .val (.pointer none) => true
  | .val (.slice none _ _) => true
  | .val (.map none) => true
  | .val .nilFunc => true
  | _ => false

/-- may values of this type be compared with nil so? -/
def nilKind (P : Program) (t : TypeId) (a : AV) : Bool :=
  match P.underlying t, a with
  | some (.pointer _), .rptr .. => true
  | some (.pointer _), .mptr .. => true
  | some (.slice _), .rsl (_ :: _) _ => true
  | some (.slice _), .msl .. => true
  | some (.map _ _), .mp .. => true
  | some (.func _ _ _), .fn .. => true
  | _, _ => false

def nilOf (P : Program) (t : TypeId) (a : AV) : Bool :=
  match P.underlying t, a with
  | some (.pointer _), .val (.pointer none) => true
  | some (.slice _), .val (.slice none _ _) => true
  | some (.map _ _), .val (.map none) => true
  | some (.func _ _ _), .val .nilFunc => true
  | _, _ => false

def aggEq (P : Program) (t : TypeId) (u v : Value) : Option Bool :=
  match u, v with
  | .agg xs, .agg ys => if P.eqGuardType P.depth t = false then eqB P Op.maxDepth t (.agg xs) (.agg ys) else none
  | _, _ => none

theorem aggEq_run {t : TypeId} {x y : Operand} {u v : Value} {r : Bool} (h : aggEq P t u v = some r) :
    (do eqGuard .eql t x y u v; binOp .eql t u v : Sem Value).run P w = .ok (.bool r) w ∧ (do eqGuard .neq t x y u v; binOp .neq t u v : Sem Value).run P w = .ok (.bool (!r)) w := by
  unfold aggEq at h
  split at h
  · rename_i xs ys
    split at h
    · rename_i hg
      have he := eqB_run (w := w) _ _ _ _ _ h
      have g1 : (eqGuard .eql t x y (.agg xs) (.agg ys)).run P w = .ok () w := by simp [eqGuard, hg]
      have g2 : (eqGuard .neq t x y (.agg xs) (.agg ys)).run P w = .ok () w := by simp [eqGuard, hg]
      constructor
      · rw [Sem.run_bind, g1]
        simp [binOp, Op.equal, he]
      · rw [Sem.run_bind, g2]
        simp [binOp, Op.equal, he]
    · cases h
  · cases h

def binA (P : Program) (op : BinOp) (t : TypeId) (x y : Operand) (a b : AV) : Option AV :=
  match a, b with
  | .val (.int k m), .val (.int k' n) => intA P op t k m k' n
  | a, b =>
    match op with
    | .eql => if (nilKind P t a && nilOf P t b) || (nilOf P t a && nilKind P t b) then some (.val (.bool false)) else
        match a.flat, b.flat with
        | some u, some v => match aggEq P t u v with
          | some r => some (.val (.bool (r)))
          | none => (pureRun P (do eqGuard .eql t x y u v; binOp .eql t u v)).map .val
        | _, _ => none
    | .neq => if (nilKind P t a && nilOf P t b) || (nilOf P t a && nilKind P t b) then some (.val (.bool true)) else
        match a.flat, b.flat with
        | some u, some v => match aggEq P t u v with
          | some r => some (.val (.bool (!r)))
          | none => (pureRun P (do eqGuard .neq t x y u v; binOp .neq t u v)).map .val
        | _, _ => none
    | op => match a.flat, b.flat with
        | some u, some v => (pureRun P (do eqGuard op t x y u v; binOp op t u v)).map .val
        | _, _ => none

theorem equal_nil {t : TypeId} {c d : AV} {p q : Value} (hc : R g c p) (hd : R g d q) (h1 : nilKind P t c = true) (h2 : nilOf P t d = true) :
    (Op.equal t p q).run P w = .ok false w ∧ (Op.equal t q p).run P w = .ok false w ∧
    (∀ op x y, (op = .eql ∨ op = .neq) → (eqGuard op t x y p q).run P w = .ok () w ∧ (eqGuard op t x y q p).run P w = .ok () w) ∧
    (binOp .eql t p q = (do pure (.bool (← Op.equal t p q))) ∧ binOp .eql t q p = (do pure (.bool (← Op.equal t q p)))) ∧
    (binOp .neq t p q = (do pure (.bool (!(← Op.equal t p q)))) ∧ binOp .neq t q p = (do pure (.bool (!(← Op.equal t q p))))) := by
  have e0 : ∀ p q, Op.equal t p q = Op.equalIn (9999 + 1) t p q := fun _ _ => rfl
  unfold nilKind at h1
  unfold nilOf at h2
  split at h1 <;> first
    | (cases h1; done)
    | (rename_i hu
       rw [hu] at h2
       split at h2 <;> first
         | (cases h2; done)
         | (rename_i he; cases he; done)
         | (rename_i he
            cases he
            first
              | (cases hd
                 cases hc <;> (refine ⟨?_, ?_, ?_, ⟨rfl, rfl⟩, ⟨rfl, rfl⟩⟩
                               · rw [e0, Op.equalIn]; simp only [Sem.run_bind, run_underlying hu, Result.andThen_ok]; try rfl
                               · rw [e0, Op.equalIn]; simp only [Sem.run_bind, run_underlying hu, Result.andThen_ok]; try rfl
                               · rintro op x y (rfl | rfl) <;> exact ⟨rfl, rfl⟩))))

theorem nil_run {t : TypeId} {a b : AV} {u v : Value} (ha : R g a u) (hb : R g b v) (h : ((nilKind P t a && nilOf P t b) || (nilOf P t a && nilKind P t b)) = true) (op : BinOp) (x y : Operand) (ho : op = .eql ∨ op = .neq) :
    (do eqGuard op t x y u v; binOp op t u v : Sem Value).run P w = .ok (.bool (op == .neq)) w := by
  simp only [Bool.or_eq_true, Bool.and_eq_true] at h
  rcases h with ⟨h1, h2⟩ | ⟨h1, h2⟩
  · obtain ⟨e1, e2, e3, ⟨e4, e5⟩, ⟨e6, e7⟩⟩ := equal_nil (w := w) ha hb h1 h2
    have := (e3 op x y ho).1
    rcases ho with rfl | rfl
    · rw [Sem.run_bind, this, e4]; simp only [Result.andThen_ok, Sem.run_bind, e1]; rfl
    · rw [Sem.run_bind, this, e6]; simp only [Result.andThen_ok, Sem.run_bind, e1]; rfl
  · obtain ⟨e1, e2, e3, ⟨e4, e5⟩, ⟨e6, e7⟩⟩ := equal_nil (w := w) hb ha h2 h1
    have := (e3 op x y ho).2
    rcases ho with rfl | rfl
    · rw [Sem.run_bind, this, e5]; simp only [Result.andThen_ok, Sem.run_bind, e2]; rfl
    · rw [Sem.run_bind, this, e7]; simp only [Result.andThen_ok, Sem.run_bind, e2]; rfl

theorem binA_run {op : BinOp} {t : TypeId} {x y : Operand} {a b r : AV} {u v : Value} (h : binA P op t x y a b = some r) (ha : R g a u) (hb : R g b v) :
    ∃ z, (do eqGuard op t x y u v; binOp op t u v : Sem Value).run P w = .ok z w ∧ r = .val z := by
  have flats : ∀ (op : BinOp), (match a.flat, b.flat with
        | some u, some v => (pureRun P (do eqGuard op t x y u v; binOp op t u v)).map AV.val
        | _, _ => none) = some r → ∃ z, (do eqGuard op t x y u v; binOp op t u v : Sem Value).run P w = .ok z w ∧ r = .val z := by
    intro op h
    split at h
    · rename_i u' v' hu hv
      simp only [Option.map_eq_some_iff] at h
      obtain ⟨z, hz, rfl⟩ := h
      have e1 := ha.flat u' hu
      have e2 := hb.flat v' hv
      subst e1; subst e2
      exact ⟨z, pureRun_run hz w, rfl⟩
    · cases h
  unfold binA at h
  split at h
  · cases ha; cases hb
    obtain ⟨z, hz, rfl⟩ := intA_run (w := w) h
    refine ⟨z, ?_, rfl⟩
    rw [Sem.run_bind, eqGuard_int]
    exact hz
  · split at h
    · split at h
      · rename_i hn
        cases h
        exact ⟨_, nil_run ha hb hn .eql x y (.inl rfl), rfl⟩
      · split at h
        · rename_i u' v' hu hv
          split at h
          · rename_i q hq
            cases h
            have e1 := ha.flat u' hu
            have e2 := hb.flat v' hv
            subst e1; subst e2
            exact ⟨_, (aggEq_run hq).1, rfl⟩
          · exact flats .eql (by rw [hu, hv]; exact h)
        · cases h
    · split at h
      · rename_i hn
        cases h
        exact ⟨_, nil_run ha hb hn .neq x y (.inr rfl), rfl⟩
      · split at h
        · rename_i u' v' hu hv
          split at h
          · rename_i q hq
            cases h
            have e1 := ha.flat u' hu
            have e2 := hb.flat v' hv
            subst e1; subst e2
            exact ⟨_, (aggEq_run hq).2, rfl⟩
          · exact flats .neq (by rw [hu, hv]; exact h)
        · cases h
    · exact flats _ h

def unA (P : Program) (op : UnOp) (a : AV) : Option AV :=
  match op, a with
  | .neg, .val (.int k n) => some (.val (.int k (k.wrap (0 - n))))
  | .not, .val (.bool b) => some (.val (.bool !b))
  | op, a => match a.flat with
    | some v => (pureRun P (Op.unary op v)).map .val
    | none => none

theorem unA_run {op : UnOp} {a r : AV} {u : Value} (h : unA P op a = some r) (ha : R g a u) : ∃ z, (Op.unary op u).run P w = .ok z w ∧ r = .val z := by
  unfold unA at h
  split at h
  · cases ha; cases h; exact ⟨_, rfl, rfl⟩
  · cases ha; cases h; exact ⟨_, rfl, rfl⟩
  · split at h
    · rename_i v hv
      simp only [Option.map_eq_some_iff] at h
      obtain ⟨z, hz, rfl⟩ := h
      have e1 := ha.flat v hv
      subst e1
      exact ⟨z, pureRun_run hz w, rfl⟩
    · cases h

def convA (P : Program) (src dst : TypeId) (a : AV) : Option AV :=
  match P.underlying src, P.underlying dst, a with
  | some (.int _), some (.int k), .val (.int _ n) => some (.val (.int k (k.wrap n)))
  | _, _, a => match a.flat with
    | some v => (pureRun P (convert src dst v)).map .val
    | none => none

theorem convA_run {src dst : TypeId} {a r : AV} {u : Value} (h : convA P src dst a = some r) (ha : R g a u) : ∃ z, (convert src dst u).run P w = .ok z w ∧ r = .val z := by
  unfold convA at h
  split at h
  · rename_i k k' n h1 h2
    cases ha; cases h
    exact ⟨_, by simp [convert, run_underlying h1, run_underlying h2, Conv.intToInt], rfl⟩
  · split at h
    · rename_i v hv
      simp only [Option.map_eq_some_iff] at h
      obtain ⟨z, hz, rfl⟩ := h
      have e1 := ha.flat v hv
      subst e1
      exact ⟨z, pureRun_run hz w, rfl⟩
    · cases h

/-- max, min of ints -/
def maxF (mx : Bool) (k : IntKind) (x : Int) : List AV → Option AV
  | [] => some (.val (.int k x))
  | .val (.int _ y) :: rest => maxF mx k (if mx then (if y > x then y else x) else (if y < x then y else x)) rest
  | _ => none

def maxA (mx : Bool) : List AV → Option AV
  | .val (.int k x) :: rest => maxF mx k x rest
  | _ => none

theorem maxF_run (mx : Bool) (k : IntKind) : ∀ (as : List AV) (us : List Value) (x : Int) (r : AV), maxF mx k x as = some r → as.length = us.length → (∀ (i : Nat) (a : AV) (u : Value), as[i]? = some a → us[i]? = some u → R g a u) →
    ∃ z, (us.foldlM (if mx then Builtin.max2 else Builtin.min2) (.int k x)).run P w = .ok z w ∧ r = .val z
  | [], us, x, r, h, hl, hr => by
    cases us with
    | nil => simp only [maxF, Option.some.injEq] at h; exact ⟨_, rfl, h.symm⟩
    | cons u us => simp at hl
  | a :: rest, us, x, r, h, hl, hr => by
    cases us with
    | nil => simp at hl
    | cons u us =>
      unfold maxF at h
      split at h
      · rename_i e; cases e
      · rename_i k' y rest' e
        cases e
        have h0 := hr 0 _ u rfl rfl
        cases h0
        obtain ⟨z, hz, rfl⟩ := maxF_run mx k rest us _ r h (by simpa using hl) (fun i a u ha hu => hr (i + 1) a u (by simpa using ha) (by simpa using hu))
        refine ⟨z, ?_, rfl⟩
        rw [← hz, List.foldlM_cons]
        cases mx <;> rfl
      · cases h

theorem maxA_run (mx : Bool) (as : List AV) (us : List Value) (r : AV) (aT : Array TypeId) (ty : TypeId) (h : maxA mx as = some r) (hl : as.length = us.length) (hr : ∀ (i : Nat) (a : AV) (u : Value), as[i]? = some a → us[i]? = some u → R g a u) :
    ∃ z, (if mx then Builtin.max_ aT ty us.toArray else Builtin.min_ aT ty us.toArray).run P w = .ok z w ∧ r = .val z := by
  unfold maxA at h
  split at h
  · rename_i k x rest
    cases us with
    | nil => simp at hl
    | cons u us =>
      have h0 := hr 0 _ u rfl rfl
      cases h0
      obtain ⟨z, hz, rfl⟩ := maxF_run (P := P) (w := w) mx k rest us x r h (by simpa using hl) (fun i a u ha hu => hr (i + 1) a u (by simpa using ha) (by simpa using hu))
      refine ⟨z, ?_, rfl⟩
      rw [← hz]
      cases mx <;> rfl
  · cases h

end Go.Proofs.Ytdmgljlabigljaa.Ab

namespace Go.Proofs.Ytdmgljlabigljaa.Ab
open Go Go.RowKit

variable {base : Nat} {w0 w w' : World} {g : Gh} {H : Hp} {P : Program}

/-- a value as an abstract one -/
def unV : Value → AV
  | .agg cs => .agg (cs.toList.map .val)
  | v => .val v

theorem unV_rel (v : Value) : R g (unV v) v := by
  cases v <;> first
    | exact .val _
    | (refine .agg (by simp) fun i c u hc hu => ?_
       rw [List.getElem?_map] at hc
       simp only [Array.getElem?_toList] at hc
       rw [hu] at hc
       cases hc
       exact .val _)

def zeroV (P : Program) (t : TypeId) : Option Value :=
  match P.info? t with
  | some i => i.zero
  | none => none

def intKey (P : Program) (t : TypeId) : Option IntKind :=
  match P.underlying t with
  | some (.int k) => some k
  | _ => none

/-- where a key stands -/
def findA (k : IntKind) (x : Int) : List (AV × AV) → Nat → Option (Option (Nat × AV))
  | [], _ => some none
  | (.val (.int k' y), v) :: es, i => if k = k' then (if x = y then some (some (i, v)) else findA k x es (i + 1)) else none
  | _, _ => none

def FoundR (g : Gh) (kd k : IntKind) (x : Int) (ms : List MapEntry) (i : Nat) : Option (Nat × AV) → Prop
  | none => Instr.findNow (.int kd) (.int k x) ms i = some none
  | some (j, v) => ∃ m, Instr.findNow (.int kd) (.int k x) ms i = some (some (j, m.val)) ∧ R g v m.val ∧ i ≤ j ∧ ms[j - i]? = some m ∧ m.key = .int k x

theorem findA_run {kd k : IntKind} {x : Int} : ∀ (es : List (AV × AV)) (ms : List MapEntry) (i : Nat) (r : Option (Nat × AV)), es.length = ms.length →
    (∀ (i : Nat) (e : AV × AV) (m : MapEntry), es[i]? = some e → ms[i]? = some m → R g e.1 m.key ∧ R g e.2 m.val) → findA k x es i = some r → FoundR g kd k x ms i r
  | [], ms, i, r, hl, _, h => by
    cases ms with
    | cons _ _ => simp at hl
    | nil => unfold findA at h; cases h; rfl
  | (kv, v) :: es, ms, i, r, hl, hr, h => by
    cases ms with
    | nil => simp at hl
    | cons m ms =>
      obtain ⟨h1, h2⟩ := hr 0 _ _ rfl rfl
      simp only at h1 h2
      cases kv with
      | val u => cases u with
        | int k' y =>
          simp only [findA] at h
          generalize hk : m.key = mk at h1
          cases h1
          split at h
          · rename_i hkk
            subst hkk
            split at h
            · rename_i hxy
              subst hxy
              cases h
              refine ⟨m, ?_, h2, Nat.le_refl _, by simp, hk⟩
              simp [Instr.findNow, Instr.sameNow, hk]
            · rename_i hxy
              have hb : (x == y) = false := by simpa using hxy
              have ih := findA_run (kd := kd) es ms (i + 1) r (by simpa using hl) (fun i e m' he hm => hr (i + 1) e m' (by simpa using he) (by simpa using hm)) h
              cases r with
              | none =>
                unfold FoundR at ih ⊢
                simp only [Instr.findNow, Instr.sameNow, hk, if_true, hb]
                exact ih
              | some jv =>
                obtain ⟨j', u⟩ := jv
                obtain ⟨m', e1, e2, e3, e4, e5⟩ := ih
                refine ⟨m', ?_, e2, by omega, ?_, e5⟩
                · simp only [Instr.findNow, Instr.sameNow, hk, if_true, hb]
                  exact e1
                · rw [show j' - i = (j' - (i + 1)) + 1 by omega]
                  simpa using e4
          · cases h
        | _ => simp [findA] at h
      | _ => simp [findA] at h

/-! ### the marks of the entries -/
open Go.MapKept (Stamped)

theorem stamped_nil : Stamped #[] 0 := ⟨by simp, by simp, by simp⟩

theorem stamped_push {ms : Array MapEntry} {c : Nat} {k v : Value} (h : Stamped ms c) (hk : ∀ m ∈ ms.toList, m.key ≠ k) : Stamped (ms.push { key := k, val := v, born := c }) (c + 1) := by
  obtain ⟨h1, h2, h3⟩ := h
  refine ⟨fun x hx => ?_, ?_, ?_⟩
  · simp only [Array.toList_push, List.mem_append, List.mem_singleton] at hx
    rcases hx with hx | rfl
    · have := h1 x hx; omega
    · show c < c + 1
      omega
  · simp only [Array.toList_push, List.map_append, List.map_cons, List.map_nil]
    refine List.nodup_append.2 ⟨h2, by simp, fun a ha b hb => ?_⟩
    simp only [List.mem_singleton] at hb
    subst hb
    obtain ⟨x, hx, rfl⟩ := List.mem_map.1 ha
    have := h1 x hx
    omega
  · simp only [Array.toList_push, List.map_append, List.map_cons, List.map_nil]
    refine List.nodup_append.2 ⟨h3, by simp, fun a ha b hb => ?_⟩
    simp only [List.mem_singleton] at hb
    subst hb
    obtain ⟨x, hx, rfl⟩ := List.mem_map.1 ha
    exact hk x hx

theorem stamped_modify {ms : Array MapEntry} {c i : Nat} {k v : Value} {m : MapEntry} (h : Stamped ms c) (hm : ms[i]? = some m) (hk : m.key = k) : Stamped (ms.modify i fun e => { e with key := k, val := v }) c := by
  have e1 : (ms.modify i fun e => { e with key := k, val := v }).toList.map (·.born) = ms.toList.map (·.born) := by
    refine List.ext_getElem? fun j => ?_
    simp only [List.getElem?_map, Array.getElem?_toList, Array.getElem?_modify]
    split
    · rename_i hij; subst hij; rw [hm]; rfl
    · rfl
  have e2 : (ms.modify i fun e => { e with key := k, val := v }).toList.map (·.key) = ms.toList.map (·.key) := by
    refine List.ext_getElem? fun j => ?_
    simp only [List.getElem?_map, Array.getElem?_toList, Array.getElem?_modify]
    split
    · rename_i hij; subst hij; rw [hm]; simp [hk]
    · rfl
  obtain ⟨h1, h2, h3⟩ := h
  refine ⟨fun x hx => ?_, by rw [e1]; exact h2, by rw [e2]; exact h3⟩
  have : x.born ∈ (ms.modify i fun e => { e with key := k, val := v }).toList.map (·.born) := List.mem_map_of_mem hx
  rw [e1] at this
  obtain ⟨y, hy, e⟩ := List.mem_map.1 this
  have := h1 y hy
  omega

theorem stamped_erase {ms : Array MapEntry} {c i : Nat} (h : Stamped ms c) : Stamped (ms.eraseIdxIfInBounds i) c := by
  have hs : (ms.eraseIdxIfInBounds i).toList.Sublist ms.toList := by
    unfold Array.eraseIdxIfInBounds
    split
    · rw [Array.toList_eraseIdx]; exact List.eraseIdx_sublist ..
    · exact List.Sublist.refl _
  obtain ⟨h1, h2, h3⟩ := h
  exact ⟨fun x hx => h1 x (hs.subset hx), h2.sublist (hs.map _), h3.sublist (hs.map _)⟩

theorem findA_none {k : IntKind} {x : Int} : ∀ (es : List (AV × AV)) (ms : List MapEntry) (i : Nat), es.length = ms.length →
    (∀ (i : Nat) (e : AV × AV) (m : MapEntry), es[i]? = some e → ms[i]? = some m → R g e.1 m.key ∧ R g e.2 m.val) → findA k x es i = some none → ∀ m ∈ ms, m.key ≠ .int k x
  | [], ms, i, hl, _, h => by
    cases ms with
    | cons _ _ => simp at hl
    | nil => simp
  | (kv, v) :: es, ms, i, hl, hr, h => by
    cases ms with
    | nil => simp at hl
    | cons m ms =>
      obtain ⟨h1, h2⟩ := hr 0 _ _ rfl rfl
      simp only at h1 h2
      cases kv with
      | val u => cases u with
        | int k' y =>
          simp only [findA] at h
          generalize hk : m.key = mk at h1
          cases h1
          split at h
          · rename_i hkk
            subst hkk
            split at h
            · cases h
            · rename_i hxy
              intro m' hm'
              rcases List.mem_cons.1 hm' with rfl | hm'
              · rw [hk]
                intro e
                cases e
                exact hxy rfl
              · exact findA_none es ms (i + 1) (by simpa using hl) (fun i e m' he hm => hr (i + 1) e m' (by simpa using he) (by simpa using hm)) h m' hm'
          · cases h
        | _ => simp [findA] at h
      | _ => simp [findA] at h

theorem checkKey_int {kt : TypeId} {kd : IntKind} (hu : P.underlying kt = some (.int kd)) (e : Bool) (v : Value) : (Instr.checkKey e 10000 kt v).run P w = .ok () w := by
  unfold Instr.checkKey
  simp only [Sem.run_bind, run_underlying hu, Result.andThen_ok]
  cases v <;> rfl

theorem findKey_int {kt : TypeId} {kd : IntKind} (hu : P.underlying kt = some (.int kd)) {v : Value} {ms : List MapEntry} {r : Option (Nat × Value)} (h : Instr.findNow (.int kd) v ms 0 = some r) : (Instr.findKey kt v ms).run P w = .ok r w := by
  unfold Instr.findKey
  simp only [Sem.run_bind, run_underlying hu, Result.andThen_ok, h, Sem.run_pure]

theorem intKey_of {kt : TypeId} {k : IntKind} (h : intKey P kt = some k) : P.underlying kt = some (.int k) := by
  unfold intKey at h
  split at h
  · rename_i k' hu; cases h; exact hu
  · cases h

theorem run_getMap {x : Nat} {ms : Array MapEntry} {c : Nat} (h : w.heap[x]? = some (.map ms c)) : (getObj x).run P w = .ok (.map ms c) w := by
  simp [getObj, Sem.run, h]

theorem run_setMap {x : Nat} {ms : Array MapEntry} {c : Nat} {o : Obj} (h : w.heap[x]? = some (.map ms c)) : (setObj x o).run P w = .ok () (w.putObj x o) := by
  simp [setObj, Sem.run, h, World.putObj]

theorem grownBy_putM (w : World) (x : Nat) (o : Obj) : w.grownBy (w.putObj x o) (some x) :=
  ⟨rfl, rfl, rfl, by simp [World.putObj], fun k _ hk => by simp only [World.putObj]; rw [Array.getElem?_setIfInBounds_ne (fun e => hk (by rw [e]))]⟩

theorem heap_putM {w : World} {x : Nat} {o : Obj} (h : x < w.heap.size) : (w.putObj x o).heap[x]? = some o := by
  simp [World.putObj, h]

/-- the entries of a map -/
def entsA (x : AV) (H : Hp) : Option (List (AV × AV)) :=
  match x with
  | .val (.map none) => some []
  | .mp b => match H[b]? with
    | some (.amap es) => some es
    | _ => none
  | _ => none

def lookA (P : Program) (t : TypeId) (x k : AV) (ok : Bool) (H : Hp) : Option AV :=
  match P.underlying t with
  | some (.map kt et) => match intKey P kt, zeroV P et, k, entsA x H with
    | some _, some z, .val (.int kk kx), some es => match findA kk kx es 0 with
      | some (some (_, v)) => some (if ok then .tup [v, .val (.bool true)] else v)
      | some none => some (if ok then .tup [unV z, .val (.bool false)] else unV z)
      | none => none
    | _, _, _, _ => none
  | _ => none

theorem run_zeroV {t : TypeId} {z : Value} (h : zeroV P t = some z) : (zeroValue t).run P w = .ok z w := by
  unfold zeroV at h
  split at h
  · rename_i i hi
    simp [zeroValue, typeInfo, hi, h]
  · cases h

theorem tup2_rel {a b : AV} {u v : Value} (h1 : R g a u) (h2 : R g b v) : R g (.tup [a, b]) (.tuple #[u, v]) := by
  refine .tup rfl fun i c x hc hx => ?_
  match i with
  | 0 => simp at hc hx; subst hc; subst hx; exact h1
  | 1 => simp at hc hx; subst hc; subst hx; exact h2
  | n + 2 => simp at hc

theorem lookA_run (S : Sim base w0 g H w) {t : TypeId} {x k r : AV} {xv kv : Value} {ok : Bool} (h : lookA P t x k ok H = some r) (hx : R g x xv) (hk : R g k kv) : ∃ v, (Instr.lookup t xv kv ok).run P w = .ok v w ∧ R g r v := by
  unfold lookA at h
  split at h
  · rename_i kt et hu
    split at h
    · rename_i kd z kk kx es hkd hz he
      cases hk
      have hki := intKey_of hkd
      unfold entsA at he
      split at he
      · cases he
        cases hx
        unfold findA at h
        cases h
        have e1 : Instr.findNow (.int kd) (.int kk kx) ([] : List MapEntry) 0 = some none := rfl
        refine ⟨if ok then .tuple #[z, .bool false] else z, ?_, ?_⟩
        · unfold Instr.lookup
          simp only [Sem.run_bind, run_underlying hu, Result.andThen_ok, Sem.run_pure, checkKey_int hki, findKey_int hki e1, run_zeroV hz]
        · cases ok with
          | true => exact tup2_rel (unV_rel z) (.val _)
          | false => exact unV_rel z
      · rename_i b
        split at he
        · rename_i es' hb
          cases he
          cases hx with
          | mp hp =>
            rename_i px
            obtain ⟨y, o, q1, q2, q3⟩ := S.obj b _ hb (by simp)
            rw [hp] at q1; cases q1
            cases q3 with
            | amap hl hr hst =>
              rename_i ms clock
              have hl' : es.length = ms.toList.length := by simpa using hl
              have hr' : ∀ (i : Nat) (e : AV × AV) (m : MapEntry), es[i]? = some e → ms.toList[i]? = some m → R g e.1 m.key ∧ R g e.2 m.val := fun i e m he hm => hr i e m he (by simpa using hm)
              split at h
              · rename_i j v hf
                cases h
                obtain ⟨m, e1, e2, e3, e4, e5⟩ := findA_run (kd := kd) es ms.toList 0 _ hl' hr' hf
                refine ⟨if ok then .tuple #[m.val, .bool true] else m.val, ?_, ?_⟩
                · unfold Instr.lookup
                  simp only [Sem.run_bind, run_underlying hu, Result.andThen_ok, Sem.run_pure, checkKey_int hki, run_getMap q2, findKey_int hki e1]
                · cases ok with
                  | true => exact tup2_rel e2 (.val _)
                  | false => exact e2
              · rename_i hf
                cases h
                have e1 := findA_run (kd := kd) es ms.toList 0 _ hl' hr' hf
                refine ⟨if ok then .tuple #[z, .bool false] else z, ?_, ?_⟩
                · unfold Instr.lookup
                  simp only [Sem.run_bind, run_underlying hu, Result.andThen_ok, Sem.run_pure, checkKey_int hki, run_getMap q2, findKey_int hki e1, run_zeroV hz]
                · cases ok with
                  | true => exact tup2_rel (unV_rel z) (.val _)
                  | false => exact unV_rel z
              · cases h
        · cases he
      · cases he
    · cases h
  · cases h

def updA (P : Program) (t : TypeId) (x k v : AV) (H : Hp) : Option Hp :=
  match P.underlying t, x, k with
  | some (.map kt _), .mp b, .val (.int kk kx) => match intKey P kt, H[b]? with
    | some _, some (.amap es) => match findA kk kx es 0 with
      | some (some (i, _)) => some (H.set b (.amap (es.set i (.val (.int kk kx), v))))
      | some none => some (H.set b (.amap (es ++ [(.val (.int kk kx), v)])))
      | none => none
    | _, _ => none
  | _, _, _ => none

theorem updA_run (S : Sim base w0 g H w) {t : TypeId} {x k v : AV} {xv kv vv : Value} {H' : Hp} (h : updA P t x k v H = some H') (hx : R g x xv) (hk : R g k kv) (hv : R g v vv) :
    ∃ w', (Instr.mapUpdate t xv kv vv).run P w = .ok () w' ∧ Sim base w0 g H' w' := by
  unfold updA at h
  split at h
  · rename_i kt et b kk kx hu
    split at h
    · rename_i kd es hkd hb
      cases hk
      have hki := intKey_of hkd
      cases hx with
      | mp hp =>
        rename_i px
        obtain ⟨y, o, q1, q2, q3⟩ := S.obj b _ hb (by simp)
        rw [hp] at q1; cases q1
        have hlt := (S.pos b px hp).2
        cases q3 with
        | amap hl hr hst =>
          rename_i ms clock
          have hl' : es.length = ms.toList.length := by simpa using hl
          have hr' : ∀ (i : Nat) (e : AV × AV) (m : MapEntry), es[i]? = some e → ms.toList[i]? = some m → R g e.1 m.key ∧ R g e.2 m.val := fun i e m he hm => hr i e m he (by simpa using hm)
          split at h
          · rename_i i u hf
            cases h
            obtain ⟨m, e1, e2, e3, e4, e5⟩ := findA_run (kd := kd) es ms.toList 0 _ hl' hr' hf
            have e4' : ms[i]? = some m := by simpa using e4
            refine ⟨w.putObj px (.map (ms.modify i fun e => { e with key := .int kk kx, val := vv }) clock), ?_, ?_⟩
            · unfold Instr.mapUpdate
              have hbits : Instr.sameBits 10000 (.int kk kx) (.int kk kx) = true := by simp [Instr.sameBits]
              simp only [Sem.run_bind, run_underlying hu, Result.andThen_ok, Sem.run_pure, checkKey_int hki, run_getMap q2, findKey_int hki e1, Instr.keyThatStays, e4', Option.map_some, Option.getD_some, e5, hbits, if_true, run_setMap q2]
            · refine S.turn hb (by simp) hp (grownBy_putM w px _) (heap_putM hlt) (.amap (by simpa using hl) (fun j e m' he hm => ?_) (stamped_modify hst e4' e5))
              rw [List.getElem?_set] at he
              rw [Array.getElem?_modify] at hm
              by_cases hij : i = j
              · subst hij
                rw [if_pos rfl] at he
                rw [if_pos rfl, e4'] at hm
                split at he
                · cases he; cases hm; exact ⟨.val _, hv⟩
                · cases he
              · rw [if_neg hij] at he hm
                exact hr j e m' he hm
          · rename_i hf
            cases h
            have e1 := findA_run (kd := kd) es ms.toList 0 _ hl' hr' hf
            refine ⟨w.putObj px (.map (ms.push { key := .int kk kx, val := vv, born := clock }) (clock + 1)), ?_, ?_⟩
            · unfold Instr.mapUpdate
              simp only [Sem.run_bind, run_underlying hu, Result.andThen_ok, checkKey_int hki, run_getMap q2, findKey_int hki e1, run_setMap q2]
            · refine S.turn hb (by simp) hp (grownBy_putM w px _) (heap_putM hlt) (.amap (by simp [hl]) (fun j e m' he hm => ?_) (stamped_push hst (findA_none es ms.toList 0 hl' hr' hf)))
              rw [List.getElem?_append] at he
              rw [Array.getElem?_push] at hm
              by_cases hj : j < es.length
              · rw [if_pos hj] at he
                rw [if_neg (by omega)] at hm
                exact hr j e m' he hm
              · rw [if_neg hj] at he
                by_cases hje : j = es.length
                · subst hje
                  rw [if_pos (by omega)] at hm
                  simp at he hm
                  subst he; subst hm
                  exact ⟨.val _, hv⟩
                · rw [List.getElem?_eq_none (by simp; omega)] at he
                  cases he
          · cases h
    · cases h
  · cases h

def delA (P : Program) (t : TypeId) (x k : AV) (H : Hp) : Option Hp :=
  match P.underlying t, x, k with
  | some (.map kt _), .mp b, .val (.int kk kx) => match intKey P kt, H[b]? with
    | some _, some (.amap es) => match findA kk kx es 0 with
      | some (some (i, _)) => some (H.set b (.amap (es.eraseIdx i)))
      | some none => some (H.set b (.amap es))
      | none => none
    | _, _ => none
  | _, _, _ => none

theorem delA_run (S : Sim base w0 g H w) {t ty t2 : TypeId} {x k : AV} {xv kv : Value} {H' : Hp} (h : delA P t x k H = some H') (hx : R g x xv) (hk : R g k kv) :
    ∃ w', (Builtin.delete_ #[t, t2] ty #[xv, kv]).run P w = .ok (.tuple #[]) w' ∧ Sim base w0 g H' w' := by
  unfold delA at h
  split at h
  · rename_i kt et b kk kx hu
    split at h
    · rename_i kd es hkd hb
      cases hk
      have hki := intKey_of hkd
      cases hx with
      | mp hp =>
        rename_i px
        obtain ⟨y, o, q1, q2, q3⟩ := S.obj b _ hb (by simp)
        rw [hp] at q1; cases q1
        have hlt := (S.pos b px hp).2
        cases q3 with
        | amap hl hr hst =>
          rename_i ms clock
          have hl' : es.length = ms.toList.length := by simpa using hl
          have hr' : ∀ (i : Nat) (e : AV × AV) (m : MapEntry), es[i]? = some e → ms.toList[i]? = some m → R g e.1 m.key ∧ R g e.2 m.val := fun i e m he hm => hr i e m he (by simpa using hm)
          split at h
          · rename_i i u hf
            cases h
            obtain ⟨m, e1, e2, e3, e4, e5⟩ := findA_run (kd := kd) es ms.toList 0 _ hl' hr' hf
            have hi : i < ms.size := by
              have := (List.getElem?_eq_some_iff.1 e4).1
              simpa using this
            refine ⟨w.putObj px (.map (ms.eraseIdxIfInBounds i) clock), ?_, ?_⟩
            · unfold Builtin.delete_
              simp [Sem.run_bind, run_underlying hu, checkKey_int hki, run_getMap q2, findKey_int hki e1, run_setMap q2]
            · refine S.turn hb (by simp) hp (grownBy_putM w px _) (heap_putM hlt) (.amap ?_ (fun j e m' he hm => ?_) (stamped_erase hst))
              · rw [List.length_eraseIdx_of_lt (by omega)]
                simp [Array.eraseIdxIfInBounds, hi, hl]
              · rw [List.getElem?_eraseIdx] at he
                have hm2 : (ms.toList.eraseIdx i)[j]? = some m' := by
                  rw [← hm]
                  simp [Array.eraseIdxIfInBounds, hi, ← Array.getElem?_toList]
                rw [List.getElem?_eraseIdx] at hm2
                split at he
                · rename_i hji
                  rw [if_pos hji] at hm2
                  exact hr' j e m' he hm2
                · rename_i hji
                  rw [if_neg hji] at hm2
                  exact hr' (j + 1) e m' he hm2
          · rename_i hf
            cases h
            have e1 := findA_run (kd := kd) es ms.toList 0 _ hl' hr' hf
            refine ⟨w.putObj px (.map ms clock), ?_, ?_⟩
            · unfold Builtin.delete_
              simp [Sem.run_bind, run_underlying hu, checkKey_int hki, run_getMap q2, findKey_int hki e1, run_setMap q2]
            · exact S.turn hb (by simp) hp (grownBy_putM w px _) (heap_putM hlt) (.amap hl hr hst)
          · cases h
    · cases h
  · cases h

end Go.Proofs.Ytdmgljlabigljaa.Ab

namespace Go.Proofs.Ytdmgljlabigljaa.Ab
open Go Go.RowKit

variable {base : Nat} {w0 w w' : World} {g : Gh} {H : Hp} {P : Program}

def isMu (mu : Nat → Bool) : Option Tmp → Bool
  | some d => mu d
  | none => false

def boxA (m : Bool) (elem : TypeId) (cs : List AV) (H : Hp) : AV × Hp :=
  if m then (.mptr H.length 0 0, H ++ [.cells [cs] elem]) else (.rptr cs 0, H)

/-- the elements that an append takes -/
def srcA (k : Nat) (x : AV) (H : Hp) : Option (List (List AV)) :=
  match x with
  | .val (.slice none 0 _) => some []
  | .rsl es _ => if es.all (fun e => e.length == k) then some es else none
  | .msl b off len => match H[b]? with
    | some (.cells es _) => if off + len ≤ es.length ∧ es.all (fun e => e.length == k) then some ((es.drop off).take len) else none
    | _ => none
  | _ => none

def appendA (P : Program) (t t' : TypeId) (s x : AV) (H : Hp) : Option (AV × Hp) :=
  if t = t' then
    match P.underlying t with
    | some (.slice e) => match P.info? e with
      | some inf => match inf.zero with
        | some z =>
          if z.cells.size = inf.size ∧ 0 < inf.size ∧ 0 < inf.bytes then
            match srcA inf.size x H with
            | some xs =>
              if xs.length = 0 then (match s with | .val (.slice none 0 0) => some (s, H) | .rsl .. => some (s, H) | .msl .. => some (s, H) | _ => none)
              else match s with
                | .val (.slice none 0 0) => if xs.length * inf.bytes ≤ 140737488355328 then some (.msl H.length 0 xs.length, H ++ [.cells xs e]) else none
                | .rsl es true => if es.all (fun e => e.length == inf.size) ∧ (es.length + xs.length) * inf.bytes ≤ 140737488355328 then some (.msl H.length 0 (es.length + xs.length), H ++ [.cells (es ++ xs) e]) else none
                | .msl b 0 len => match H[b]? with
                  | some (.cells es e') =>
                    if e' = e ∧ len ≤ es.length ∧ 0 < es.length ∧ es.all (fun e => e.length == inf.size) ∧ xs.all (fun e => e.all AV.isCell) ∧ (len + xs.length) * inf.bytes ≤ 140737488355328 then
                      some (.msl H.length 0 (len + xs.length), H.set b .dead ++ [.cells (es.take len ++ xs) e]) else none
                  | _ => none
                | _ => none
            | none => none
          else none
        | none => none
      | none => none
    | _ => none
  else none

theorem le_maxLen {n b : Nat} (hb : 0 < b) (h : n * b ≤ 140737488355328) : n ≤ maxLen := by
  have := Nat.le_mul_of_pos_right n hb
  simp only [maxLen]; omega

theorem srcA_src (S : Sim base w0 g H w) {k : Nat} {x : AV} {xv : Value} {xs : List (List AV)} (h : srcA k x H = some xs) (hx : R g x xv) (hk : 0 < k) (h0 : xs.length ≠ 0) : Src w g k xs xv := by
  unfold srcA at h
  split at h
  · cases h; exact absurd rfl h0
  · split at h
    · cases h; exact Src.rsl S hx hk (by assumption) (Nat.pos_of_ne_zero h0)
    · cases h
  · split at h
    · split at h
      · rename_i hb hif
        cases h
        refine Src.msl S hx hb hif.1 hif.2 ?_
        simp at h0
        omega
      · cases h
    · cases h
  · cases h

theorem srcA_none {k : Nat} {x : AV} {xv : Value} {xs : List (List AV)} (h : srcA k x H = some xs) (hx : R g x xv) (h0 : xs.length = 0) : ∃ ad c, xv = .slice ad 0 c := by
  unfold srcA at h
  split at h
  · cases hx; cases h
    exact ⟨_, _, rfl⟩
  · split at h
    · cases h
      cases hx with
      | rnil => exact ⟨_, _, rfl⟩
      | rsl vs hn => rw [h0] at hn; subst hn; exact ⟨_, _, rfl⟩
    · cases h
  · split at h
    · split at h
      · rename_i hb hif
        cases h
        cases hx with
        | msl => exact ⟨_, _, by congr 1; simp at h0; omega⟩
      · cases h
    · cases h
  · cases h

theorem append_none {t ty e : TypeId} {inf : TypeInfo} (ht : P.underlying t = some (.slice e)) (hi : P.info? e = some inf) (b : Option Addr) (n c : Nat) (hn : n ≤ c) (ad : Option Addr) (k : Nat) :
    (Builtin.append_ #[t, t] ty #[.slice b n c, .slice ad 0 k]).run P w = .ok (.slice b n c) w := by
  cases b <;> cases ad <;> simp [Builtin.append_, run_underlying ht, sizeOf, typeInfo, hi, Builtin.lenOf, Builtin.firstCells, loadCells, loadCellsFrom, storeCells, hn]

theorem appendA_run (S : Sim base w0 g H w) {t t' ty : TypeId} {s x r : AV} {sv xv : Value} {H' : Hp} (h : appendA P t t' s x H = some (r, H')) (hs : R g s sv) (hx : R g x xv) :
    ∃ v g' w', (Builtin.append_ #[t, t'] ty #[sv, xv]).run P w = .ok v w' ∧ g.le g' ∧ Sim base w0 g' H' w' ∧ R g' r v := by
  unfold appendA at h
  split at h
  · rename_i htt
    subst htt
    split at h
    · rename_i e hu
      split at h
      · rename_i inf hi
        split at h
        · rename_i z hz
          split at h
          · rename_i hif
            obtain ⟨hzs, hk, hby⟩ := hif
            split at h
            · rename_i xs hxs
              split at h
              · rename_i h0
                obtain ⟨ad, c, rfl⟩ := srcA_none hxs hx h0
                split at h
                · cases h
                  cases hs
                  exact ⟨_, g, w, append_none hu hi none 0 0 (Nat.le_refl _) ad c, Gh.le.refl g, S, .val _⟩
                · cases h
                  cases hs with
                  | rnil => exact ⟨_, g, w, append_none hu hi _ 0 0 (Nat.le_refl _) ad c, Gh.le.refl g, S, .rnil _⟩
                  | rsl vs hn hl hc hm hk hf hr => exact ⟨_, g, w, append_none hu hi _ _ _ hl ad c, Gh.le.refl g, S, .rsl vs hn hl hc hm hk hf hr⟩
                · cases h
                  cases hs with
                  | msl hp hl hc hm => exact ⟨_, g, w, append_none hu hi _ _ _ hl ad c, Gh.le.refl g, S, .msl hp hl hc hm⟩
                · cases h
              · rename_i h0
                have hsrc := srcA_src S hxs hx hk h0
                split at h
                · split at h
                  · rename_i hb
                    cases h
                    cases hs
                    obtain ⟨v, w', g', h1, h2, h3, h4⟩ := append_nil (ty := ty) S hu hi hz hzs hsrc (by omega) (le_maxLen hby hb) hb
                    exact ⟨v, g', w', h1, h2, h3, h4⟩
                  · cases h
                · split at h
                  · rename_i hb
                    cases h
                    obtain ⟨v, w', g', h1, h2, h3, h4⟩ := append_exact (ty := ty) S hu hi hz hzs hk hs hb.1 hsrc (by omega) (le_maxLen hby hb.2) hb.2
                    exact ⟨v, g', w', h1, h2, h3, h4⟩
                  · cases h
                · split at h
                  · rename_i hb
                    split at h
                    · rename_i hc
                      obtain ⟨rfl, c1, c2, c3, c4, c5⟩ := hc
                      cases h
                      obtain ⟨v, w', g', h1, h2, h3, h4⟩ := append_own (ty := ty) S hu hi hz hzs hk hs hb c1 c2 c3 hsrc c4 (le_maxLen hby c5) c5
                      exact ⟨v, g', w', h1, h2, h3, h4⟩
                    · cases h
                  · cases h
                · cases h
            · cases h
          · cases h
        · cases h
      · cases h
    · cases h
  · cases h

/-- len -/
def lenA (P : Program) (t : TypeId) (x : AV) (H : Hp) : Option AV :=
  match P.underlying t, x with
  | some (.slice _), .rsl es _ => some (.val (.int .i64 es.length))
  | some (.slice _), .msl _ _ n => some (.val (.int .i64 n))
  | some (.slice _), .val (.slice none n _) => some (.val (.int .i64 n))
  | some (.string), .val (.string s) => some (.val (.int .i64 s.size))
  | some (.map _ _), .val (.map none) => some (.val (.int .i64 0))
  | some (.map _ _), .mp b => match H[b]? with
    | some (.amap es) => some (.val (.int .i64 es.length))
    | _ => none
  | _, _ => none

theorem lenA_run (S : Sim base w0 g H w) {t ty : TypeId} {x r : AV} {xv : Value} (h : lenA P t x H = some r) (hx : R g x xv) :
    ∃ v, (Builtin.len_ #[t] ty #[xv]).run P w = .ok v w ∧ R g r v := by
  unfold lenA at h
  split at h
  · rename_i hu
    cases h
    cases hx with
    | rnil => exact ⟨_, by simp [Builtin.len_, run_underlying hu, goInt], .val _⟩
    | rsl vs hn => subst hn; exact ⟨_, by simp [Builtin.len_, run_underlying hu, goInt], .val _⟩
  · rename_i hu
    cases h
    cases hx
    exact ⟨_, by simp [Builtin.len_, run_underlying hu, goInt], .val _⟩
  · rename_i hu
    cases h
    cases hx
    exact ⟨_, by simp [Builtin.len_, run_underlying hu, goInt], .val _⟩
  · rename_i hu
    cases h
    cases hx
    exact ⟨_, by simp [Builtin.len_, run_underlying hu, goInt], .val _⟩
  · rename_i hu
    cases h
    cases hx
    exact ⟨_, by simp [Builtin.len_, run_underlying hu, goInt], .val _⟩
  · rename_i b hu
    split at h
    · rename_i es hb
      cases h
      cases hx with
      | mp hp =>
        obtain ⟨y, o, h1, h2, h3⟩ := S.obj b _ hb (by simp)
        rw [hp] at h1; cases h1
        cases h3 with
        | amap hl hr =>
          refine ⟨_, ?_, .val _⟩
          simp [Builtin.len_, run_underlying hu, goInt, getObj, Sem.run, h2, hl]
    · cases h
  · cases h

def builtinA (P : Program) (b : Builtin) (aT : Array TypeId) (args : List AV) (H : Hp) : Option (AV × Hp) :=
  match b, aT.toList, args with
  | .len, [t], [x] => (lenA P t x H).map (·, H)
  | .append, [t, t'], [s, x] => appendA P t t' s x H
  | .max, _, args => (maxA true args).map (·, H)
  | .min, _, args => (maxA false args).map (·, H)
  | .delete, [t, _], [m, k] => (delA P t m k H).map fun H' => (.val (.tuple #[]), H')
  | _, _, _ => none

/-- of types: zero values, sizes, elements, fields -/
def zeroA (P : Program) (t : TypeId) : Option (List AV) :=
  match P.info? t with
  | some i => match i.zero with
    | some z => some (z.cells.toList.map .val)
    | none => none
  | none => none

def sizeA (P : Program) (t : TypeId) : Option Nat := (P.info? t).map (·.size)

inductive Els where
  | sl (e : TypeId) (k : Nat)
  | ar (n : Nat) (e : TypeId) (k : Nat)
  | no

def elemA (P : Program) (t : TypeId) : Els :=
  match P.underlying t with
  | some (.slice e) => match sizeA P e with
    | some k => .sl e k
    | none => .no
  | some (.array n e) => match sizeA P e with
    | some k => if 2 ≤ n then .ar n e k else .no
    | none => .no
  | _ => .no

def fieldTO (P : Program) (t : TypeId) (f : Nat) : Option (TypeId × Nat) :=
  match P.underlying t with
  | some (.struct fs) => match fs[f]? with
    | some fl => some (fl.type, fl.offset)
    | none => none
  | _ => none

def stepA (P : Program) (mu : Nat → Bool) (o : Oper) (T : Env) (H : Hp) : Option (AV × Hp) :=
  match o.op with
  | .move x => some (evA T x, H)
  | .assign x => some (evA T x, H)
  | .pick c a b => match evA T c with
    | .val (.bool t) => some (if t then evA T a else evA T b, H)
    | _ => none
  | .alloc elem => match zeroA P elem with
    | some z => some (boxA (isMu mu o.dst) elem z H)
    | none => none
  | .box elem x => some (boxA (isMu mu o.dst) elem (evA T x).cells H)
  | .build t ps => (buildA P t (partsA (evA T) ps)).map (·, H)
  | .buildSlice t len ps => match litA P t len (partsA (evA T) ps) with
    | some (es, e) => if isMu mu o.dst then some (.msl H.length 0 len, H ++ [.cells es e]) else some (.rsl es true, H)
    | none => none
  | .load t a => match evA T a with
    | .rptr cs off => (loadA P t cs off).map (·, H)
    | .mptr b i off => match H[b]? with
      | some (.cells es _) => match es[i]? with
        | some e => (loadA P t e off).map (·, H)
        | none => none
      | _ => none
    | _ => none
  | .store t a x => match evA T a with
    | .mptr b i off => match H[b]?, sizeA P t with
      | some (.cells es ty), some k => match es[i]? with
        | some e =>
          if k = (evA T x).cells.length ∧ off + (evA T x).cells.length ≤ e.length ∧ (evA T x).cells.all AV.isCell then
            some (.val undef, H.set b (.cells (es.set i (setAt e off (evA T x).cells)) ty)) else none
        | none => none
      | _, _ => none
    | _ => none
  | .nilCheck x => match evA T x with
    | .rptr cs off => some (.rptr cs off, H)
    | .mptr b i off => some (.mptr b i off, H)
    | .fn (.func f) cap => some (.fn (.func f) cap, H)
    | .val (.pointer (some a)) => some (.val (.pointer (some a)), H)
    | _ => none
  | .binOp op t x y _ => (binA P op t x y (evA T x) (evA T y)).map (·, H)
  | .unOp op _ x => (unA P op (evA T x)).map (·, H)
  | .convert src dst x => (convA P src dst (evA T x)).map (·, H)
  | .makeFunc f first captured => match f with
    | .func k => if first.size = 0 then some (.fn (.func k) (captured.toList.map (evA T)), H) else if captured.size = 0 then some (.mth k (first.toList.map (evA T)), H) else none
    | _ => none
  | .makeSlice t l c => match evA T l, evA T c with
    | .val (.int _ n), .val (.int _ m) => if n = m then (match makeA P t n with
      | some (es, e) => some (.msl H.length 0 n.toNat, H ++ [.cells es e])
      | none => none) else none
    | _, _ => none
  | .slice t x lo hi mx => (sliceA P t (evA T x) (lo.map (evA T)) (hi.map (evA T)) (mx.map (evA T))).map (·, H)
  | .fieldAddr s x f => match fieldOff P s f with
    | some d => match evA T x with
      | .rptr cs off => some (.rptr cs (off + d), H)
      | .mptr b i off => some (.mptr b i (off + d), H)
      | _ => none
    | none => none
  | .field t x f => match evA T x, fieldTO P t f with
    | .agg cs, some (ft, fo) => (loadA P ft cs fo).map (·, H)
    | .val (.agg vs), some (ft, fo) => (loadA P ft (vs.toList.map .val) fo).map (·, H)
    | _, _ => none
  | .indexAddr t x i => match evA T i with
    | .val (.int _ n) =>
      if 0 ≤ n then
        match evA T x, elemA P t with
        | .rsl es _, .sl _ k => match es[n.toNat]? with
          | some c => if c.length = k then some (.rptr c 0, H) else none
          | none => none
        | .msl b off len, .sl _ k => match H[b]? with
          | some (.cells es _) => if n.toNat < len then (match es[off + n.toNat]? with
            | some c => if c.length = k then some (.mptr b (off + n.toNat) 0, H) else none
            | none => none) else none
          | _ => none
        | .rptr cs off, .ar m _ k => if n < (m : Int) then some (.rptr cs (off + n.toNat * k), H) else none
        | .mptr b j off, .ar m _ k => if n < (m : Int) then some (.mptr b j (off + n.toNat * k), H) else none
        | _, _ => none
      else none
    | _ => none
  | .index t x i => match (evA T x).flat, (evA T i).flat with
    | some u, some v => (pureRun P (Instr.index t u v)).map (.val ·, H)
    | none, some (.int _ n) => match evA T x, elemA P t with
      | .agg cs, .ar m e k => if 0 ≤ n ∧ n < (m : Int) then (loadA P e cs (n.toNat * k)).map (·, H) else none
      | _, _ => none
    | _, _ => none
  | .extract t ix => match evA T t with
    | .tup cs => (cs[ix]?).map (·, H)
    | .val (.tuple vs) => (vs[ix]?).map (.val ·, H)
    | _ => none
  | .makeMap _ none => some (.mp H.length, H ++ [.amap []])
  | .lookup t x i ok => (lookA P t (evA T x) (evA T i) ok H).map (·, H)
  | .mapUpdate t m k v => (updA P t (evA T m) (evA T k) (evA T v) H).map fun H' => (.val undef, H')
  | .call c => match c.callee with
    | .builtin b => builtinA P b c.argTypes (c.args.toList.map (evA T)) H
    | _ => none
  | _ => none

end Go.Proofs.Ytdmgljlabigljaa.Ab

namespace Go.Proofs.Ytdmgljlabigljaa.Ab
open Go Go.RowKit

variable {base : Nat} {w0 w w' : World} {g : Gh} {H : Hp} {P : Program}

def RunsTo (P : Program) (o : Oper) (a : Act) (w : World) (v : Value) (w' : World) : Prop :=
  (execOp a.eval o).run P w = .ok (.value v) w' ∨ ((execOp a.eval o).run P w = .ok .skip w' ∧ v = undef)

theorem box_run (S : Sim base w0 g H w) {m : Bool} {elem : TypeId} {cs : List AV} {vs : Array Value} {r : AV} {H' : Hp} (h : boxA m elem cs H = (r, H')) (hc : RCells g cs vs) :
    ∃ g', g.le g' ∧ Sim base w0 g' H' (w.alloc (.cells vs elem)) ∧ R g' r (.pointer (some ⟨w.heap.size, 0, none⟩)) := by
  unfold boxA at h
  split at h
  · cases h; exact box_own S hc elem
  · cases h; exact box_fz S hc elem

theorem parts_rel {T : Env} {a : Act} (ps : Array (Nat × Operand)) (hr : ∀ x ∈ ps.toList.map (·.2), R g (evA T x) (a.eval x)) :
    (partsA (evA T) ps).length = (ps.map fun (i, x) => (i, a.eval x)).size ∧
    ∀ (n : Nat) (p : Nat × AV) (q : Nat × Value), (partsA (evA T) ps)[n]? = some p → (ps.map fun (i, x) => (i, a.eval x))[n]? = some q → p.1 = q.1 ∧ R g p.2 q.2 := by
  refine ⟨by simp [partsA], fun n p q hp hq => ?_⟩
  simp only [partsA, List.getElem?_map, Array.getElem?_toList, Array.getElem?_map, Option.map_eq_some_iff] at hp hq
  obtain ⟨x, hx, rfl⟩ := hp
  obtain ⟨y, hy, rfl⟩ := hq
  rw [hx] at hy
  cases hy
  exact ⟨rfl, hr x.2 (List.mem_map.2 ⟨x, by simpa using Array.mem_of_getElem? hx, rfl⟩)⟩

theorem list_rel {T : Env} {a : Act} (xs : Array Operand) (hr : ∀ x ∈ xs, R g (evA T x) (a.eval x)) :
    (xs.toList.map (evA T)).length = (xs.map a.eval).size ∧ ∀ (i : Nat) (c : AV) (v : Value), (xs.toList.map (evA T))[i]? = some c → (xs.map a.eval)[i]? = some v → R g c v := by
  refine ⟨by simp, fun i c v hc hv => ?_⟩
  simp only [List.getElem?_map, Array.getElem?_toList, Array.getElem?_map, Option.map_eq_some_iff] at hc hv
  obtain ⟨x, hx, rfl⟩ := hc
  obtain ⟨y, hy, rfl⟩ := hv
  rw [hx] at hy
  cases hy
  exact hr x (Array.mem_of_getElem? hx)

theorem pure_map {o : Option AV} {r : AV} {H H' : Hp} (h : o.map (·, H) = some (r, H')) : o = some r ∧ H' = H := by
  cases o with
  | none => cases h
  | some x => cases h; exact ⟨rfl, rfl⟩

theorem part_of {cs : List AV} {vs : Array Value} {ty : TypeId} {off : Nat} {r : AV} (hc : RCells g cs vs) (hl : loadA P ty cs off = some r) : ∃ v, (part ty vs off).run P w = .ok v w ∧ R g r v := by
  unfold loadA at hl
  have hagg : ∀ n, off + n ≤ cs.length → R g (.agg ((cs.drop off).take n)) (.agg (vs.extract off (off + n))) := by
    intro n hn
    have := hc.size
    refine .agg (by simp; omega) (fun i c v hc' hv' => ?_)
    rw [List.getElem?_take] at hc'
    split at hc'
    · rename_i hi
      rw [List.getElem?_drop] at hc'
      rw [Array.getElem?_extract] at hv'
      split at hv'
      · exact hc.cell _ _ _ hc' hv'
      · cases hv'
    · cases hc'
  split at hl
  · rename_i fs' i hu' hi
    split at hl
    · cases hl
      exact ⟨_, by simp [part, run_isAgg _ _ hu', run_sizeOf _ _ hi], hagg _ (by assumption)⟩
    · cases hl
  · rename_i n' e' i hu' hi
    split at hl
    · cases hl
      exact ⟨_, by simp [part, run_isAgg _ _ hu', run_sizeOf _ _ hi], hagg _ (by assumption)⟩
    · cases hl
  · rename_i d i hs ha hu' hi
    obtain ⟨v, h1, h2⟩ := hc.get hl
    have hb : (isAgg ty).run P w = .ok false w := by
      rw [run_isAgg _ _ hu']
      cases d <;> first | rfl | exact absurd rfl (hs _) | exact absurd rfl (ha _ _)
    exact ⟨v, by simp [part, hb, h1], h2⟩
  · cases hl


theorem stepA_sound (S : Sim base w0 g H w) {mu : Nat → Bool} {o : Oper} {T : Env} {a : Act} {r : AV} {H' : Hp} (h : stepA P mu o T H = some (r, H')) (hr : ∀ x ∈ o.op.operands, R g (evA T x) (a.eval x)) :
    ∃ v g' w', RunsTo P o a w v w' ∧ g.le g' ∧ Sim base w0 g' H' w' ∧ R g' r v := by
  obtain ⟨dst, op, type, pos, after, guard⟩ := o
  cases op with
  | move x =>
    simp only [stepA, Option.some.injEq, Prod.mk.injEq] at h
    obtain ⟨rfl, rfl⟩ := h
    exact ⟨_, g, w, .inl rfl, Gh.le.refl g, S, hr x (by simp [Op.operands])⟩
  | assign x =>
    simp only [stepA, Option.some.injEq, Prod.mk.injEq] at h
    obtain ⟨rfl, rfl⟩ := h
    exact ⟨_, g, w, .inl rfl, Gh.le.refl g, S, hr x (by simp [Op.operands])⟩
  | pick c x y =>
    have hc := hr c (by simp [Op.operands])
    have hx := hr x (by simp [Op.operands])
    have hy := hr y (by simp [Op.operands])
    simp only [stepA] at h
    split at h
    · rename_i t e
      rw [e] at hc
      generalize hcv : a.eval c = cv at hc
      cases hc
      simp only [Option.some.injEq, Prod.mk.injEq] at h
      obtain ⟨rfl, rfl⟩ := h
      refine ⟨if t then a.eval x else a.eval y, g, w, .inl ?_, Gh.le.refl g, S, ?_⟩
      · simp [execOp, hcv, asBool]
      · cases t <;> assumption
    · cases h
  | alloc elem =>
    simp only [stepA] at h
    split at h
    · rename_i z' hz'
      simp only [Option.some.injEq] at h
      unfold zeroA at hz'
      split at hz'
      · rename_i i hi
        split at hz'
        · rename_i z hz
          cases hz'
          obtain ⟨g', h1, h2, h3⟩ := box_run S h (RCells.vals z.cells)
          exact ⟨_, g', _, .inl (by simp [execOp, Instr.alloc, zeroValue, typeInfo, hi, hz, newVar, newRow]), h1, h2, h3⟩
        · cases hz'
      · cases hz'
    · cases h
  | box elem x =>
    simp only [stepA, Option.some.injEq] at h
    obtain ⟨g', h1, h2, h3⟩ := box_run S h (hr x (by simp [Op.operands])).cells
    exact ⟨_, g', _, .inl (by simp [execOp, Instr.box, newVar, newRow]), h1, h2, h3⟩
  | build t ps =>
    simp only [stepA] at h
    obtain ⟨hq, hH⟩ := pure_map h; subst hH; clear h; have h := hq; clear hq
    obtain ⟨hl, hp⟩ := parts_rel (g := g) (T := T) (a := a) ps (fun x hx => hr x (by simpa [Op.operands] using hx))
    obtain ⟨v, h1, h2⟩ := build_run (w := w) h hl hp
    exact ⟨v, g, w, .inl (by show (do pure (.value (← Instr.build t (ps.map fun (i, x) => (i, a.eval x)))) : Sem Next).run P w = _; rw [Sem.run_bind, h1]; rfl), Gh.le.refl g, S, h2⟩
  | buildSlice t len ps =>
    obtain ⟨hl, hp⟩ := parts_rel (g := g) (T := T) (a := a) ps (fun x hx => hr x (by simpa [Op.operands] using hx))
    simp only [stepA] at h
    split at h
    · rename_i es e hlit
      obtain ⟨k, us, h1, h2, h3, h4⟩ := lit_run (w := w) hlit hl hp
      split at h
      · cases h
        obtain ⟨g', k1, k2, k3⟩ := own_new S (w' := w.alloc (.cells us.toArray e)) (cur := us.toArray) (t := e) (cp := len) h2 (by simp [h2.size, h3]) (by omega) (by rw [← h2.size]; simp) h4 (World.grownBy_alloc w _ none) (heap_alloc_new w _)
        subst h3
        exact ⟨_, g', _, .inl (by show (do pure (.value (← Instr.buildSlice t es.length (ps.map fun (i, x) => (i, a.eval x)))) : Sem Next).run P w = _; rw [Sem.run_bind, h1]; rfl), k1, k2, k3⟩
      · cases h
        obtain ⟨g', k1, k2, k3⟩ := lit_fz S h2 (by omega) e
        subst h3
        exact ⟨_, g', _, .inl (by show (do pure (.value (← Instr.buildSlice t es.length (ps.map fun (i, x) => (i, a.eval x)))) : Sem Next).run P w = _; rw [Sem.run_bind, h1]; rfl), k1, k2, k3⟩
    · cases h
  | load t x =>
    have hx := hr x (by simp [Op.operands])
    simp only [stepA] at h
    split at h
    · rename_i cs off e
      rw [e] at hx
      obtain ⟨hq, hH⟩ := pure_map h; subst hH; clear h; have h := hq; clear hq
      obtain ⟨v, h1, h2⟩ := loadA_run (w := w) (g := g) h (a.eval x) (by generalize a.eval x = u at hx; cases hx; exact ⟨_, rfl⟩) (fun j c hc => R.rptr_cell S hx hc)
      exact ⟨v, g, w, .inl (by simp only [execOp, Sem.run_bind, h1, Result.andThen_ok, Sem.run_pure]), Gh.le.refl g, S, h2⟩
    · rename_i b i off e
      rw [e] at hx
      split at h
      · rename_i es t' hb
        split at h
        · rename_i e' he
          obtain ⟨hq, hH⟩ := pure_map h; subst hH; clear h; have h := hq; clear hq
          obtain ⟨v, h1, h2⟩ := loadA_run (w := w) (g := g) h (a.eval x) (by generalize a.eval x = u at hx; cases hx; exact ⟨_, rfl⟩) (fun j c hc => R.mptr_cell S hx hb he hc)
          exact ⟨v, g, w, .inl (by simp only [execOp, Sem.run_bind, h1, Result.andThen_ok, Sem.run_pure]), Gh.le.refl g, S, h2⟩
        · cases h
      · cases h
    · cases h
  | store t x y =>
    have hx := hr x (by simp [Op.operands])
    have hy := hr y (by simp [Op.operands])
    simp only [stepA] at h
    split at h
    · rename_i b i off e
      rw [e] at hx
      split at h
      · rename_i es ty k hb hk
        obtain ⟨inf, hi, rfl⟩ := Option.map_eq_some_iff.1 hk
        split at h
        · rename_i e' he
          split at h
          · rename_i hif
            cases h
            obtain ⟨w', h1, h2⟩ := store_own S hx hb he hy hi hif.1 hif.2.1 hif.2.2
            exact ⟨undef, g, w', .inr ⟨by simp only [execOp, Sem.run_bind, h1, Result.andThen_ok, Sem.run_pure], rfl⟩, Gh.le.refl g, h2, .val _⟩
          · cases h
        · cases h
      · cases h
    · cases h
  | nilCheck x =>
    have hx := hr x (by simp [Op.operands])
    simp only [stepA] at h
    split at h
    all_goals first
      | (cases h; done)
      | (rename_i e
         rw [e] at hx
         cases h
         refine ⟨a.eval x, g, w, .inl ?_, Gh.le.refl g, S, hx⟩
         generalize hu : a.eval x = u at hx
         cases hx <;> simp [execOp, hu])
  | binOp op t x y t' =>
    simp only [stepA] at h
    obtain ⟨hq, hH⟩ := pure_map h; subst hH; clear h; have h := hq; clear hq
    obtain ⟨z, h1, rfl⟩ := binA_run (w := w) h (hr x (by simp [Op.operands])) (hr y (by simp [Op.operands]))
    refine ⟨z, g, w, .inl ?_, Gh.le.refl g, S, .val z⟩
    simp only [execOp, Sem.run_bind] at h1 ⊢
    rw [h1]
    rfl
  | unOp op t x =>
    simp only [stepA] at h
    obtain ⟨hq, hH⟩ := pure_map h; subst hH; clear h; have h := hq; clear hq
    obtain ⟨z, h1, rfl⟩ := unA_run (w := w) h (hr x (by simp [Op.operands]))
    exact ⟨z, g, w, .inl (by simp only [execOp, Sem.run_bind, h1, Result.andThen_ok, Sem.run_pure]), Gh.le.refl g, S, .val z⟩
  | convert src dst' x =>
    simp only [stepA] at h
    obtain ⟨hq, hH⟩ := pure_map h; subst hH; clear h; have h := hq; clear hq
    obtain ⟨z, h1, rfl⟩ := convA_run (w := w) h (hr x (by simp [Op.operands]))
    exact ⟨z, g, w, .inl (by simp only [execOp, Sem.run_bind, h1, Result.andThen_ok, Sem.run_pure]), Gh.le.refl g, S, .val z⟩
  | makeFunc f first captured =>
    simp only [stepA] at h
    split at h
    · rename_i k
      split at h
      · rename_i h0
        cases h
        obtain ⟨hl, hp⟩ := list_rel (g := g) (T := T) (a := a) captured (fun x hx => hr x (by simp [Op.operands, hx]))
        refine ⟨.func (.func k) #[] (captured.map a.eval), g, w, .inl ?_, Gh.le.refl g, S, .fn (by simp) hl hp⟩
        have : first = #[] := Array.eq_empty_of_size_eq_zero h0
        subst this
        simp [execOp, Instr.makeFunc]
      · split at h
        · rename_i h0
          cases h
          obtain ⟨hl, hp⟩ := list_rel (g := g) (T := T) (a := a) first (fun x hx => hr x (by simp [Op.operands, hx]))
          refine ⟨.func (.func k) (first.map a.eval) #[], g, w, .inl ?_, Gh.le.refl g, S, .mth hl hp⟩
          have : captured = #[] := Array.eq_empty_of_size_eq_zero h0
          subst this
          simp [execOp, Instr.makeFunc]
        · cases h
    · cases h
  | makeSlice t l c =>
    have hl := hr l (by simp [Op.operands])
    have hc := hr c (by simp [Op.operands])
    simp only [stepA] at h
    split at h
    · rename_i kl n kc m e1 e2
      rw [e1] at hl
      rw [e2] at hc
      generalize hlv : a.eval l = lv at hl
      generalize hcv : a.eval c = cv at hc
      cases hl; cases hc
      split at h
      · rename_i hnm
        subst hnm
        split at h
        · rename_i es e hmk
          cases h
          obtain ⟨v, w', g', h1, h2, h3, h4⟩ := make_own S (kl := kl) (kc := kc) hmk
          exact ⟨v, g', w', .inl (by simp only [execOp, Sem.run_bind, hlv, hcv, h1, Result.andThen_ok, Sem.run_pure]), h2, h3, h4⟩
        · cases h
      · cases h
    · cases h
  | slice t x lo hi mx =>
    simp only [stepA] at h
    obtain ⟨hq, hH⟩ := pure_map h; subst hH; clear h; have h := hq; clear hq
    have ho : ∀ (y : Option Operand), (∀ z, y = some z → z ∈ (Op.slice t x lo hi mx).operands) → ROpt g (y.map (evA T)) (y.map a.eval) := by
      intro y hy
      cases y with
      | none => exact trivial
      | some z => exact hr z (hy z rfl)
    obtain ⟨v, h1, h2⟩ := slice_run (w := w) h (hr x (by simp [Op.operands])) (ho lo (by intro z hz; subst hz; simp [Op.operands])) (ho hi (by intro z hz; subst hz; simp [Op.operands])) (ho mx (by intro z hz; subst hz; simp [Op.operands]))
    exact ⟨v, g, w, .inl (by simp only [execOp, Sem.run_bind, h1, Result.andThen_ok, Sem.run_pure]), Gh.le.refl g, S, h2⟩
  | fieldAddr s x f =>
    have hx := hr x (by simp [Op.operands])
    simp only [stepA] at h
    split at h
    · rename_i d hd
      split at h
      · rename_i cs off e
        rw [e] at hx
        cases h
        obtain ⟨ad, h1, h2⟩ := rptr_add (d := d) hx
        exact ⟨_, g, w, .inl (by simp only [execOp, Sem.run_bind, h1, fieldOff_run hd, Result.andThen_ok, Sem.run_pure]), Gh.le.refl g, S, h2⟩
      · rename_i b i off e
        rw [e] at hx
        cases h
        obtain ⟨ad, h1, h2⟩ := mptr_add (d := d) hx
        exact ⟨_, g, w, .inl (by simp only [execOp, Sem.run_bind, h1, fieldOff_run hd, Result.andThen_ok, Sem.run_pure]), Gh.le.refl g, S, h2⟩
      · cases h
    · cases h
  | field t x f =>
    have hx := hr x (by simp [Op.operands])
    simp only [stepA] at h
    have key : ∀ (cs : List AV) (vs : Array Value) (fs : Array Field) (fl : Field), RCells g cs vs → a.eval x = .agg vs → P.underlying t = some (.struct fs) → fs[f]? = some fl → loadA P fl.type cs fl.offset = some r →
        ∃ v, (execOp a.eval { dst, op := .field t x f, type, pos, after, guard }).run P w = .ok (.value v) w ∧ R g r v := by
      intro cs vs fs fl hc hv hu hf hl
      have hpart : ∃ v, (part fl.type vs fl.offset).run P w = .ok v w ∧ R g r v := part_of hc hl
      obtain ⟨v, h1, h2⟩ := hpart
      exact ⟨v, by simp [execOp, Instr.field, run_underlying hu, hf, hv, asAgg, h1], h2⟩
    have hfld : ∀ ft fo, fieldTO P t f = some (ft, fo) → ∃ fs fl, P.underlying t = some (.struct fs) ∧ fs[f]? = some fl ∧ fl.type = ft ∧ fl.offset = fo := by
      intro ft fo hq
      unfold fieldTO at hq
      split at hq
      · rename_i fs hu
        split at hq
        · rename_i fl hf
          cases hq
          exact ⟨fs, fl, hu, hf, rfl, rfl⟩
        · cases hq
      · cases hq
    split at h
    · rename_i cs ft fo e hq
      obtain ⟨fs, fl, hu, hf, rfl, rfl⟩ := hfld _ _ hq
      rw [e] at hx
      obtain ⟨hq, hH⟩ := pure_map h; subst hH; clear h; have h := hq; clear hq
      generalize hxv : a.eval x = xv at hx
      cases hx with
      | agg hl hr' =>
        obtain ⟨v, h1, h2⟩ := key cs _ fs fl ⟨hl, hr'⟩ hxv hu hf h
        exact ⟨v, g, w, .inl h1, Gh.le.refl g, S, h2⟩
    · rename_i vs ft fo e hq
      obtain ⟨fs, fl, hu, hf, rfl, rfl⟩ := hfld _ _ hq
      rw [e] at hx
      obtain ⟨hq, hH⟩ := pure_map h; subst hH; clear h; have h := hq; clear hq
      generalize hxv : a.eval x = xv at hx
      cases hx
      obtain ⟨v, h1, h2⟩ := key _ _ fs fl (RCells.vals vs) hxv hu hf h
      exact ⟨v, g, w, .inl h1, Gh.le.refl g, S, h2⟩
    · cases h
  | indexAddr t x i =>
    have hx := hr x (by simp [Op.operands])
    have hi := hr i (by simp [Op.operands])
    simp only [stepA] at h
    have hsl : ∀ e k, elemA P t = .sl e k → ∃ inf, P.underlying t = some (.slice e) ∧ P.info? e = some inf ∧ inf.size = k := by
      intro e k hq
      unfold elemA at hq
      split at hq
      · rename_i e' hu
        split at hq
        · rename_i k' hk
          cases hq
          obtain ⟨inf, hi, rfl⟩ := Option.map_eq_some_iff.1 hk
          exact ⟨inf, hu, hi, rfl⟩
        · cases hq
      · split at hq
        · split at hq <;> cases hq
        · cases hq
      · cases hq
    have har : ∀ m e k, elemA P t = .ar m e k → ∃ inf, P.underlying t = some (.array m e) ∧ P.info? e = some inf ∧ inf.size = k ∧ 2 ≤ m := by
      intro m e k hq
      unfold elemA at hq
      split at hq
      · split at hq <;> cases hq
      · rename_i n' e' hu
        split at hq
        · rename_i k' hk
          split at hq
          · cases hq
            obtain ⟨inf, hi, rfl⟩ := Option.map_eq_some_iff.1 hk
            exact ⟨inf, hu, hi, rfl, by assumption⟩
          · cases hq
        · cases hq
      · cases hq
    split at h
    · rename_i k n e
      rw [e] at hi
      generalize hiv : a.eval i = iv at hi
      cases hi
      split at h
      · rename_i h0
        split at h
        · rename_i es ex el k e2 hq
          obtain ⟨inf, hu, hinf, rfl⟩ := hsl _ _ hq
          rw [e2] at hx
          split at h
          · rename_i c hc
            split at h
            · rename_i hlen
              cases h
              obtain ⟨ad, m, cap, h1, h2, h3⟩ := rsl_index hx hc
              subst h2
              have hn : n.toNat < es.length := (List.getElem?_eq_some_iff.1 hc).1
              rw [hlen] at h3
              refine ⟨_, g, w, .inl ?_, Gh.le.refl g, S, h3⟩
              have hlt : n < (es.length : Int) := by omega
              simp [execOp, Instr.indexAt, hiv, h1, asIntOf, run_underlying hu, h0, hlt, run_sizeOf _ _ hinf]
            · cases h
          · cases h
        · rename_i b off len el k e2 hq
          obtain ⟨inf, hu, hinf, rfl⟩ := hsl _ _ hq
          rw [e2] at hx
          split at h
          · rename_i es t' hb
            split at h
            · rename_i hn
              split at h
              · rename_i c hc
                split at h
                · rename_i hlen
                  cases h
                  obtain ⟨ad, cap, h1, h3⟩ := msl_index S hx hb hc
                  rw [hlen] at h3
                  refine ⟨_, g, w, .inl ?_, Gh.le.refl g, S, h3⟩
                  have hlt : n < (len : Int) := by omega
                  simp [execOp, Instr.indexAt, hiv, h1, asIntOf, run_underlying hu, h0, hlt, run_sizeOf _ _ hinf]
                · cases h
              · cases h
            · cases h
          · cases h
        · rename_i cs off m el k e2 hq
          obtain ⟨inf, hu, hinf, rfl, h2⟩ := har _ _ _ hq
          rw [e2] at hx
          split at h
          · rename_i hlt
            cases h
            obtain ⟨ad, h1, h3⟩ := rptr_add (d := n.toNat * inf.size) hx
            refine ⟨_, g, w, .inl ?_, Gh.le.refl g, S, h3⟩
            simp [execOp, Instr.indexAt, Instr.sureAddr, hiv, h1, asIntOf, run_underlying hu, h0, hlt, run_sizeOf _ _ hinf]
          · cases h
        · rename_i b j off m el k e2 hq
          obtain ⟨inf, hu, hinf, rfl, h2⟩ := har _ _ _ hq
          rw [e2] at hx
          split at h
          · rename_i hlt
            cases h
            obtain ⟨ad, h1, h3⟩ := mptr_add (d := n.toNat * inf.size) hx
            refine ⟨_, g, w, .inl ?_, Gh.le.refl g, S, h3⟩
            simp [execOp, Instr.indexAt, Instr.sureAddr, hiv, h1, asIntOf, run_underlying hu, h0, hlt, run_sizeOf _ _ hinf]
          · cases h
        · cases h
      · cases h
    · cases h
  | index t x i =>
    simp only [stepA] at h
    split at h
    · rename_i u v hu hv
      simp only [Option.map_eq_some_iff, Prod.mk.injEq] at h
      obtain ⟨z, hz, rfl, rfl⟩ := h
      have e1 := (hr x (by simp [Op.operands])).flat u hu
      have e2 := (hr i (by simp [Op.operands])).flat v hv
      refine ⟨z, g, w, .inl ?_, Gh.le.refl g, S, .val z⟩
      simp only [execOp, Sem.run_bind, e1, e2, pureRun_run hz w, Result.andThen_ok, Sem.run_pure]
    · rename_i kk n _ hv
      have e2 := (hr i (by simp [Op.operands])).flat _ hv
      have hx := hr x (by simp [Op.operands])
      split at h
      · rename_i cs m e k ecs hq
        rw [ecs] at hx
        split at h
        · rename_i hnm
          obtain ⟨hq2, hH⟩ := pure_map h; subst hH; clear h; have h := hq2; clear hq2
          unfold elemA at hq
          split at hq
          · split at hq <;> cases hq
          · rename_i n' e' hu
            split at hq
            · rename_i k' hk
              split at hq
              · cases hq
                unfold sizeA at hk
                generalize hxv : a.eval x = xv at hx
                cases hx with
                | agg hl hr' =>
                  obtain ⟨v, h1, h2⟩ := part_of (w := w) ⟨hl, hr'⟩ h
                  refine ⟨v, g, w, .inl ?_, Gh.le.refl g, S, h2⟩
                  obtain ⟨inf, hinf, rfl⟩ : ∃ inf, P.info? e = some inf ∧ inf.size = k := by
                    cases hi : P.info? e with
                    | none => rw [hi] at hk; cases hk
                    | some inf => rw [hi] at hk; first | (cases hk; exact ⟨inf, rfl, rfl⟩) | (simp at hk; exact ⟨inf, rfl, hk⟩)
                  simp [execOp, Instr.index, hxv, e2, asIntOf, run_underlying hu, hnm, run_sizeOf _ _ hinf, h1]
              · cases hq
            · cases hq
          · cases hq
        · cases h
      · cases h
    · cases h
  | extract t ix =>
    have hx := hr t (by simp [Op.operands])
    simp only [stepA] at h
    split at h
    · rename_i cs e
      rw [e] at hx
      obtain ⟨hq, hH⟩ := pure_map h; subst hH; clear h; have h := hq; clear hq
      generalize hxv : a.eval t = xv at hx
      cases hx with
      | tup hl hr' =>
        obtain ⟨v, h1, h2⟩ := (RCells.mk hl hr').get h
        exact ⟨v, g, w, .inl (by simp [execOp, Instr.extract, hxv, h1]), Gh.le.refl g, S, h2⟩
    · rename_i vs e
      rw [e] at hx
      generalize hxv : a.eval t = xv at hx
      cases hx
      simp only [Option.map_eq_some_iff, Prod.mk.injEq] at h
      obtain ⟨z, hz, rfl, rfl⟩ := h
      exact ⟨z, g, w, .inl (by simp [execOp, Instr.extract, hxv, hz]), Gh.le.refl g, S, .val z⟩
    · cases h
  | makeMap t reserve =>
    cases reserve with
    | some _ => simp [stepA] at h
    | none =>
      simp only [stepA] at h
      cases h
      have S2 := S.alloc (k := 0) (c := 0) (ob := .amap []) (World.grownBy_alloc w (.map #[] 0) none) (heap_alloc_new _ _) (.amap rfl (by simp) stamped_nil)
      exact ⟨.map (some w.heap.size), _, _, .inl (by simp only [execOp, Option.map_none, Sem.run_bind, run_makeMap, Result.andThen_ok, Sem.run_pure]), Gh.phAdd_le S.fresh, S2, .mp (by simp [Gh.phAdd])⟩
  | lookup t x i ok =>
    simp only [stepA] at h
    obtain ⟨hq, hH⟩ := pure_map h; subst hH; clear h; have h := hq; clear hq
    obtain ⟨v, h1, h2⟩ := lookA_run S h (hr x (by simp [Op.operands])) (hr i (by simp [Op.operands]))
    exact ⟨v, g, w, .inl (by simp only [execOp, Sem.run_bind, h1, Result.andThen_ok, Sem.run_pure]), Gh.le.refl g, S, h2⟩
  | mapUpdate t m k v =>
    simp only [stepA, Option.map_eq_some_iff, Prod.mk.injEq] at h
    obtain ⟨H1, h, rfl, rfl⟩ := h
    obtain ⟨w', h1, h2⟩ := updA_run S h (hr m (by simp [Op.operands])) (hr k (by simp [Op.operands])) (hr v (by simp [Op.operands]))
    exact ⟨undef, g, w', .inr ⟨by simp only [execOp, Sem.run_bind, h1, Result.andThen_ok, Sem.run_pure], rfl⟩, Gh.le.refl g, h2, .val _⟩
  | call c =>
    obtain ⟨callee, args, aT⟩ := c
    simp only [stepA] at h
    split at h
    · rename_i b
      obtain ⟨hl, hp⟩ := list_rel (g := g) (T := T) (a := a) args (fun x hx => hr x (by simp [Op.operands, Call.operands, hx]))
      have hexec : ∀ (v : Value) (w' : World), (∀ consts, (builtin b aT type consts (args.map a.eval)).run P w = .ok (.value v) w') → (execOp a.eval { dst, op := .call ⟨.builtin b, args, aT⟩, type, pos, after, guard }).run P w = .ok (.value v) w' := by
        intro v w' hb
        simp only [execOp, resolve, invoke, Sem.run_bind, Sem.run_pure, Result.andThen_ok]
        exact hb _
      unfold builtinA at h
      split at h
      · rename_i t x e1 e2
        obtain ⟨hq, hH⟩ := pure_map h; subst hH; clear h; have h := hq; clear hq
        
        have hsz : (args.map a.eval).size = 1 := by rw [← hl, e2]; rfl
        have hxx := hp 0 x ((args.map a.eval)[0]) (by rw [e2]; rfl) (Array.getElem?_eq_getElem (by omega))
        have hargs : args.map a.eval = #[(args.map a.eval)[0]] := by
          apply Array.ext
          · simpa using hsz
          · intro i h1 h2
            have : i = 0 := by omega
            subst this
            rfl
        have haT : aT = #[t] := by apply Array.ext'; simpa using e1
        obtain ⟨v, h1, h2⟩ := lenA_run (ty := type) S h hxx
        refine ⟨v, g, w, .inl (hexec v w fun consts => ?_), Gh.le.refl g, S, h2⟩
        rw [hargs, haT]
        simp only [builtin, Sem.run_bind, h1, Result.andThen_ok, Sem.run_pure]
      · rename_i t t' s x e1 e2
        have hsz : (args.map a.eval).size = 2 := by rw [← hl, e2]; rfl
        have hss := hp 0 s ((args.map a.eval)[0]) (by rw [e2]; rfl) (Array.getElem?_eq_getElem (by omega))
        have hxx := hp 1 x ((args.map a.eval)[1]) (by rw [e2]; rfl) (Array.getElem?_eq_getElem (by omega))
        have hargs : args.map a.eval = #[(args.map a.eval)[0], (args.map a.eval)[1]] := by
          apply Array.ext
          · simpa using hsz
          · intro i h1 h2
            have : i = 0 ∨ i = 1 := by omega
            rcases this with rfl | rfl <;> rfl
        have haT : aT = #[t, t'] := by apply Array.ext'; simpa using e1
        obtain ⟨v, g', w', h1, h2, h3, h4⟩ := appendA_run (ty := type) S h hss hxx
        refine ⟨v, g', w', .inl (hexec v w' fun consts => ?_), h2, h3, h4⟩
        rw [hargs, haT]
        simp only [builtin, Sem.run_bind, h1, Result.andThen_ok, Sem.run_pure]
      · obtain ⟨hq, hH⟩ := pure_map h; subst hH; clear h; have h := hq; clear hq
        obtain ⟨z, h1, rfl⟩ := maxA_run (P := P) (w := w) true _ (args.map a.eval).toList r aT type h (by simp) (fun i c u hc hu => hp i c u hc (by simpa using hu))
        refine ⟨z, g, w, .inl (hexec z w fun consts => ?_), Gh.le.refl g, S, .val z⟩
        simp only [if_true, Array.toArray_toList] at h1
        simp only [builtin, Sem.run_bind, h1, Result.andThen_ok, Sem.run_pure]
      · obtain ⟨hq, hH⟩ := pure_map h; subst hH; clear h; have h := hq; clear hq
        obtain ⟨z, h1, rfl⟩ := maxA_run (P := P) (w := w) false _ (args.map a.eval).toList r aT type h (by simp) (fun i c u hc hu => hp i c u hc (by simpa using hu))
        refine ⟨z, g, w, .inl (hexec z w fun consts => ?_), Gh.le.refl g, S, .val z⟩
        simp only [Bool.false_eq_true, if_false, Array.toArray_toList] at h1
        simp only [builtin, Sem.run_bind, h1, Result.andThen_ok, Sem.run_pure]
      · rename_i t t' m k e1 e2
        simp only [Option.map_eq_some_iff, Prod.mk.injEq] at h
        obtain ⟨H1, h, rfl, rfl⟩ := h
        have hsz : (args.map a.eval).size = 2 := by rw [← hl, e2]; rfl
        have hmm := hp 0 m ((args.map a.eval)[0]) (by rw [e2]; rfl) (Array.getElem?_eq_getElem (by omega))
        have hkk := hp 1 k ((args.map a.eval)[1]) (by rw [e2]; rfl) (Array.getElem?_eq_getElem (by omega))
        have hargs : args.map a.eval = #[(args.map a.eval)[0], (args.map a.eval)[1]] := by
          apply Array.ext
          · simpa using hsz
          · intro i h1 h2
            have : i = 0 ∨ i = 1 := by omega
            rcases this with rfl | rfl <;> rfl
        have haT : aT = #[t, t'] := by apply Array.ext'; simpa using e1
        obtain ⟨w', h1, h2⟩ := delA_run (t2 := t') (ty := type) S h hmm hkk
        refine ⟨.tuple #[], g, w', .inl (hexec _ w' fun consts => ?_), Gh.le.refl g, h2, .val _⟩
        rw [hargs, haT]
        simp only [builtin, Sem.run_bind, h1, Result.andThen_ok, Sem.run_pure]
      · cases h
    · cases h
  | _ => simp [stepA] at h

end Go.Proofs.Ytdmgljlabigljaa.Ab
