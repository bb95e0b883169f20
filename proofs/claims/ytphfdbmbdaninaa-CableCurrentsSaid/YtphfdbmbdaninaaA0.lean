/- The abstract values of this seat's proofs, what relates them to the machine's values, and what relates an abstract heap to a world. -/
import Derived.RangeFuncCalls
import Derived.RangeFuncLeaves
import Derived.Below
import Derived.WalkKit
import Derived.MapKept
namespace Go.Proofs.Ytphfdbmbdaninaa.Ab
open Go Go.RowKit

/-- abstract values -/
inductive AV where
  | val (v : Value)
  | rptr (cs : List AV) (off : Nat)
  | mptr (b i off : Nat)
  | rsl (es : List (List AV)) (exact : Bool)
  | msl (b off len : Nat)
  | fn (f : Fn) (cap : List AV)
  | mth (f : FuncId) (pre : List AV)
  | mp (b : Nat)
  | agg (cs : List AV)
  | tup (cs : List AV)

instance : Inhabited AV := ⟨.val undef⟩

/-- what is known of memory that never turns any more (fz), and where own blocks lie (ph), how many cells an element has (ks), for how many elements there is room (cp) -/
structure Gh where
  fz : Nat → Nat → Option Value
  ph : Nat → Option Nat
  ks : Nat → Nat
  cp : Nat → Nat
  mr : Nat → Prop

inductive R (g : Gh) : AV → Value → Prop
  | val (v : Value) : R g (.val v) v
  | rptr {cs : List AV} {off b o : Nat} (vs : Nat → Value) (hf : ∀ i, i < cs.length → g.fz b (o + i) = some (vs i))
      (hr : ∀ (i : Nat) (c : AV), cs[i]? = some c → R g c (vs i)) : R g (.rptr cs off) (.pointer (some ⟨b, o + off, none⟩))
  | mptr {b i off x : Nat} (h : g.ph b = some x) : R g (.mptr b i off) (.pointer (some ⟨x, i * g.ks b + off, none⟩))
  | rsl {es : List (List AV)} {ex : Bool} {b o k n cap : Nat} (vs : Nat → Nat → Value) (hn : n = es.length) (hl : n ≤ cap) (hc : ex = true → cap = n) (hm : cap ≤ maxLen)
      (hk : ∀ (i : Nat) (e : List AV), es[i]? = some e → e.length = k) (hf : ∀ i j, i < es.length → j < k → g.fz b (o + i * k + j) = some (vs i j))
      (hr : ∀ (i : Nat) (e : List AV) (j : Nat) (c : AV), es[i]? = some e → e[j]? = some c → R g c (vs i j)) : R g (.rsl es ex) (.slice (some ⟨b, o, none⟩) n cap)
  | rnil {ex : Bool} (a : Option Addr) : R g (.rsl [] ex) (.slice a 0 0)
  | msl {b off len x cap : Nat} (h : g.ph b = some x) (hl : len ≤ cap) (hc : off + cap = g.cp b) (hm : cap ≤ maxLen) :
      R g (.msl b off len) (.slice (some ⟨x, off * g.ks b, none⟩) len cap)
  | fn {f : Fn} {cap : List AV} {vs : Array Value} (hy : ∀ l, f ≠ .yield l) (hl : cap.length = vs.size) (hr : ∀ (i : Nat) (c : AV) (v : Value), cap[i]? = some c → vs[i]? = some v → R g c v) : R g (.fn f cap) (.func f #[] vs)
  | mth {f : FuncId} {pre : List AV} {vs : Array Value} (hl : pre.length = vs.size) (hr : ∀ (i : Nat) (c : AV) (v : Value), pre[i]? = some c → vs[i]? = some v → R g c v) : R g (.mth f pre) (.func (.func f) vs #[])
  | yld {b l : Nat} (h : g.ph b = some l) : R g (.fn (.yield b) []) (.func (.yield l) #[] #[])
  | mp {b x : Nat} (h : g.ph b = some x) : R g (.mp b) (.map (some x))
  | agg {cs : List AV} {vs : Array Value} (hl : cs.length = vs.size) (hr : ∀ (i : Nat) (c : AV) (v : Value), cs[i]? = some c → vs[i]? = some v → R g c v) : R g (.agg cs) (.agg vs)
  | tup {cs : List AV} {vs : Array Value} (hl : cs.length = vs.size) (hr : ∀ (i : Nat) (c : AV) (v : Value), cs[i]? = some c → vs[i]? = some v → R g c v) : R g (.tup cs) (.tuple vs)

/-- g' knows all that g knows -/
structure Gh.le (g g' : Gh) : Prop where
  fz : ∀ b o v, g.fz b o = some v → g'.fz b o = some v
  ph : ∀ b x, g.ph b = some x → g'.ph b = some x
  ks : ∀ b x, g.ph b = some x → g'.ks b = g.ks b
  cp : ∀ b x, g.ph b = some x → g'.cp b = g.cp b
  mr : ∀ r, g.mr r → g'.mr r

theorem Gh.le.refl (g : Gh) : g.le g := ⟨fun _ _ _ h => h, fun _ _ h => h, fun _ _ _ => rfl, fun _ _ _ => rfl, fun _ h => h⟩
theorem Gh.le.trans {a b c : Gh} (h : a.le b) (k : b.le c) : a.le c :=
  ⟨fun x o v hx => k.fz x o v (h.fz x o v hx), fun x y hx => k.ph x y (h.ph x y hx), fun x y hx => (k.ks x y (h.ph x y hx)).trans (h.ks x y hx),
   fun x y hx => (k.cp x y (h.ph x y hx)).trans (h.cp x y hx), fun r hr => k.mr r (h.mr r hr)⟩

theorem R.mono4 {g g' : Gh} (hfz : ∀ b o v, g.fz b o = some v → g'.fz b o = some v) (hph : ∀ b x, g.ph b = some x → g'.ph b = some x) (hks : ∀ b x, g.ph b = some x → g'.ks b = g.ks b)
    (hcp : ∀ b x, g.ph b = some x → g'.cp b = g.cp b) {a : AV} {v : Value} (h : R g a v) : R g' a v := by
  induction h with
  | val v => exact .val v
  | rptr vs hf _ ih => exact .rptr vs (fun i hi => hfz _ _ _ (hf i hi)) ih
  | mptr h => rw [← hks _ _ h]; exact .mptr (hph _ _ h)
  | rsl vs hn hl hc hm hk hf _ ih => exact .rsl vs hn hl hc hm hk (fun i j hi hj => hfz _ _ _ (hf i j hi hj)) ih
  | rnil a => exact .rnil a
  | msl h hl hc hm => rw [← hks _ _ h]; exact .msl (hph _ _ h) hl (by rw [hcp _ _ h]; exact hc) hm
  | fn hy hl _ ih => exact .fn hy hl ih
  | mth hl _ ih => exact .mth hl ih
  | yld h => exact .yld (hph _ _ h)
  | mp h => exact .mp (hph _ _ h)
  | agg hl _ ih => exact .agg hl ih
  | tup hl _ ih => exact .tup hl ih

theorem R.mono {g g' : Gh} (hg : g.le g') {a : AV} {v : Value} (h : R g a v) : R g' a v := h.mono4 hg.fz hg.ph hg.ks hg.cp

/-- abstract objects -/
inductive AObj where
  | cells (es : List (List AV)) (t : TypeId)
  | loop (st : LoopState) (pend : Option Code) (f : FuncId) (T : Nat → AV) (n : Nat) (params : Array Tmp) (assign body : Code) (defers : Nat)
  | amap (es : List (AV × AV))
  | dead

abbrev Env := Nat → AV

structure TRel (g : Gh) (n : Nat) (T : Env) (tmps : Array Value) : Prop where
  size : tmps.size = n
  slot : ∀ t, R g (T t) (tmps.getD t undef)

theorem TRel.mono {g g' : Gh} {n : Nat} {T : Env} {tmps : Array Value} (h : TRel g n T tmps) (hg : g.le g') : TRel g' n T tmps :=
  ⟨h.size, fun t => (h.slot t).mono hg⟩

inductive ORel (g : Gh) (k cp : Nat) : AObj → Obj → Prop
  | cells {es : List (List AV)} {t : TypeId} {cur : Array Value} (hs : cur.size = cp * k) (hl : es.length ≤ cp) (hk : ∀ (i : Nat) (e : List AV), es[i]? = some e → e.length = k)
      (hr : ∀ (i : Nat) (e : List AV) (j : Nat) (c : AV), es[i]? = some e → e[j]? = some c → ∃ v, cur[i * k + j]? = some v ∧ R g c v) : ORel g k cp (.cells es t) (.cells cur t (0, 0))
  | loop {st : LoopState} {pend : Option Code} {f f' : FuncId} {T : Env} {n : Nat} {params : Array Tmp} {assign body : Code} {defers defers' : Nat} {tmps : Array Value} (h : TRel g n T tmps) :
      ORel g k cp (.loop st pend f T n params assign body defers) (.loop { state := st, pending := pend, fn := f', tmps, params, assign, body, defers := defers' })
  | amap {es : List (AV × AV)} {ms : Array MapEntry} {clock : Nat} (hl : es.length = ms.size) (hr : ∀ (i : Nat) (e : AV × AV) (m : MapEntry), es[i]? = some e → ms[i]? = some m → R g e.1 m.key ∧ R g e.2 m.val) (hs : Go.MapKept.Stamped ms clock) :
      ORel g k cp (.amap es) (.map ms clock)
  | dead (o : Obj) : ORel g k cp .dead o

theorem ORel.mono {g g' : Gh} (hg : g.le g') {k cp : Nat} {a : AObj} {o : Obj} (h : ORel g k cp a o) : ORel g' k cp a o := by
  cases h with
  | cells hs hl hk hr => exact .cells hs hl hk (fun i e j c he hc => let ⟨v, h1, h2⟩ := hr i e j c he hc; ⟨v, h1, h2.mono hg⟩)
  | loop h => exact .loop (h.mono hg)
  | amap hl hr hs => exact .amap hl (fun i e m he hm => ⟨(hr i e m he hm).1.mono hg, (hr i e m he hm).2.mono hg⟩) hs
  | dead => exact .dead _

/-- the same but for the marks -/
structure Gh.same (g g' : Gh) : Prop where
  fz : g'.fz = g.fz
  ph : g'.ph = g.ph
  ks : g'.ks = g.ks
  cp : g'.cp = g.cp

theorem R.same {g g' : Gh} (h : g.same g') {a : AV} {v : Value} (hr : R g a v) : R g' a v :=
  hr.mono4 (fun _ _ _ k => by rw [h.fz]; exact k) (fun _ _ k => by rw [h.ph]; exact k) (fun _ _ _ => by rw [h.ks]) (fun _ _ _ => by rw [h.cp])

theorem TRel.same {g g' : Gh} (h : g.same g') {n : Nat} {T : Env} {tmps : Array Value} (k : TRel g n T tmps) : TRel g' n T tmps := ⟨k.size, fun t => (k.slot t).same h⟩

theorem ORel.same {g g' : Gh} (h : g.same g') {k cp : Nat} {a : AObj} {o : Obj} (hr : ORel g k cp a o) : ORel g' k cp a o := by
  cases hr with
  | cells hs hl hk hr => exact .cells hs hl hk (fun i e j c he hc => let ⟨v, h1, h2⟩ := hr i e j c he hc; ⟨v, h1, h2.same h⟩)
  | loop h' => exact .loop (h'.same h)
  | amap hl hr hs => exact .amap hl (fun i e m he hm => ⟨(hr i e m he hm).1.same h, (hr i e m he hm).2.same h⟩) hs
  | dead => exact .dead _

abbrev Hp := List AObj

/-- a world as an abstract heap tells it -/
structure Sim (base : Nat) (w0 : World) (g : Gh) (H : Hp) (w : World) : Prop where
  below : Below base w0 w
  low : base ≤ w.heap.size
  fz : ∀ b o v, g.fz b o = some v → w.cell? ⟨b, o, none⟩ = some v
  dom : ∀ b x, g.ph b = some x → b < H.length
  pos : ∀ b x, g.ph b = some x → base ≤ x ∧ x < w.heap.size
  sep : ∀ b x ob, H[b]? = some ob → ob ≠ .dead → g.ph b = some x → (∀ o, g.fz x o = none) ∧ ¬ g.mr x
  inj : ∀ b c x ob oc, H[b]? = some ob → ob ≠ .dead → H[c]? = some oc → oc ≠ .dead → g.ph b = some x → g.ph c = some x → b = c
  obj : ∀ b ob, H[b]? = some ob → ob ≠ .dead → ∃ x o, g.ph b = some x ∧ w.heap[x]? = some o ∧ ORel g (g.ks b) (g.cp b) ob o
  marks : ∀ r, g.mr r → base ≤ r ∧ r < w.heap.size ∧ w.heap[r]? = some (.deferred (some []))

theorem dead_ne (ob : AObj) : ob = .dead ∨ ob ≠ .dead := by
  cases ob <;> simp

end Go.Proofs.Ytphfdbmbdaninaa.Ab
