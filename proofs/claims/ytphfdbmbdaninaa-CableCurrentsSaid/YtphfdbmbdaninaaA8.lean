/- stepA: one operation that makes no call of a Go function. -/
import Derived.Test.YtphfdbmbdaninaaA7m
namespace Go.Proofs.Ytphfdbmbdaninaa.Ab
open Go Go.RowKit

variable {base : Nat} {w0 w w' : World} {g : Gh} {H : Hp} {P : Program}

def isMu (mu : Nat → Bool) : Option Tmp → Bool
  | some d => mu d
  | none => false

def boxA (m : Bool) (elem : TypeId) (cs : List AV) (H : Hp) : AV × Hp :=
  if m then (.mptr H.length 0 0, H ++ [.cells [cs] elem]) else (.rptr cs 0, H)

/-- the elements that an append takes -/
def srcA (k : Nat) (x : AV) (H : Hp) : Option (List (List AV)) :=
  match x with
  | .val (.slice none 0 _) => some []
  | .rsl es _ => if es.all (fun e => e.length == k) then some es else none
  | .msl b off len => match H[b]? with
    | some (.cells es _) => if off + len ≤ es.length ∧ es.all (fun e => e.length == k) then some ((es.drop off).take len) else none
    | _ => none
  | _ => none

def appendA (P : Program) (t t' : TypeId) (s x : AV) (H : Hp) : Option (AV × Hp) :=
  if t = t' then
    match P.underlying t with
    | some (.slice e) => match P.info? e with
      | some inf => match inf.zero with
        | some z =>
          if z.cells.size = inf.size ∧ 0 < inf.size ∧ 0 < inf.bytes then
            match srcA inf.size x H with
            | some xs =>
              if xs.length = 0 then (match s with | .val (.slice none 0 0) => some (s, H) | .rsl .. => some (s, H) | .msl .. => some (s, H) | _ => none)
              else match s with
                | .val (.slice none 0 0) => if xs.length * inf.bytes ≤ 140737488355328 then some (.msl H.length 0 xs.length, H ++ [.cells xs e]) else none
                | .rsl es true => if es.all (fun e => e.length == inf.size) ∧ (es.length + xs.length) * inf.bytes ≤ 140737488355328 then some (.msl H.length 0 (es.length + xs.length), H ++ [.cells (es ++ xs) e]) else none
                | .msl b 0 len => match H[b]? with
                  | some (.cells es e') =>
                    if e' = e ∧ len ≤ es.length ∧ 0 < es.length ∧ es.all (fun e => e.length == inf.size) ∧ xs.all (fun e => e.all AV.isCell) ∧ (len + xs.length) * inf.bytes ≤ 140737488355328 then
                      some (.msl H.length 0 (len + xs.length), H.set b .dead ++ [.cells (es.take len ++ xs) e]) else none
                  | _ => none
                | _ => none
            | none => none
          else none
        | none => none
      | none => none
    | _ => none
  else none

theorem le_maxLen {n b : Nat} (hb : 0 < b) (h : n * b ≤ 140737488355328) : n ≤ maxLen := by
  have := Nat.le_mul_of_pos_right n hb
  simp only [maxLen]; omega

theorem srcA_src (S : Sim base w0 g H w) {k : Nat} {x : AV} {xv : Value} {xs : List (List AV)} (h : srcA k x H = some xs) (hx : R g x xv) (hk : 0 < k) (h0 : xs.length ≠ 0) : Src w g k xs xv := by
  unfold srcA at h
  split at h
  · cases h; exact absurd rfl h0
  · split at h
    · cases h; exact Src.rsl S hx hk (by assumption) (Nat.pos_of_ne_zero h0)
    · cases h
  · split at h
    · split at h
      · rename_i hb hif
        cases h
        refine Src.msl S hx hb hif.1 hif.2 ?_
        simp at h0
        omega
      · cases h
    · cases h
  · cases h

theorem srcA_none {k : Nat} {x : AV} {xv : Value} {xs : List (List AV)} (h : srcA k x H = some xs) (hx : R g x xv) (h0 : xs.length = 0) : ∃ ad c, xv = .slice ad 0 c := by
  unfold srcA at h
  split at h
  · cases hx; cases h
    exact ⟨_, _, rfl⟩
  · split at h
    · cases h
      cases hx with
      | rnil => exact ⟨_, _, rfl⟩
      | rsl vs hn => rw [h0] at hn; subst hn; exact ⟨_, _, rfl⟩
    · cases h
  · split at h
    · split at h
      · rename_i hb hif
        cases h
        cases hx with
        | msl => exact ⟨_, _, by congr 1; simp at h0; omega⟩
      · cases h
    · cases h
  · cases h

theorem append_none {t ty e : TypeId} {inf : TypeInfo} (ht : P.underlying t = some (.slice e)) (hi : P.info? e = some inf) (b : Option Addr) (n c : Nat) (hn : n ≤ c) (ad : Option Addr) (k : Nat) :
    (Builtin.append_ #[t, t] ty #[.slice b n c, .slice ad 0 k]).run P w = .ok (.slice b n c) w := by
  cases b <;> cases ad <;> simp [Builtin.append_, run_underlying ht, sizeOf, typeInfo, hi, Builtin.lenOf, Builtin.firstCells, loadCells, loadCellsFrom, storeCells, hn]

theorem appendA_run (S : Sim base w0 g H w) {t t' ty : TypeId} {s x r : AV} {sv xv : Value} {H' : Hp} (h : appendA P t t' s x H = some (r, H')) (hs : R g s sv) (hx : R g x xv) :
    ∃ v g' w', (Builtin.append_ #[t, t'] ty #[sv, xv]).run P w = .ok v w' ∧ g.le g' ∧ Sim base w0 g' H' w' ∧ R g' r v := by
  unfold appendA at h
  split at h
  · rename_i htt
    subst htt
    split at h
    · rename_i e hu
      split at h
      · rename_i inf hi
        split at h
        · rename_i z hz
          split at h
          · rename_i hif
            obtain ⟨hzs, hk, hby⟩ := hif
            split at h
            · rename_i xs hxs
              split at h
              · rename_i h0
                obtain ⟨ad, c, rfl⟩ := srcA_none hxs hx h0
                split at h
                · cases h
                  cases hs
                  exact ⟨_, g, w, append_none hu hi none 0 0 (Nat.le_refl _) ad c, Gh.le.refl g, S, .val _⟩
                · cases h
                  cases hs with
                  | rnil => exact ⟨_, g, w, append_none hu hi _ 0 0 (Nat.le_refl _) ad c, Gh.le.refl g, S, .rnil _⟩
                  | rsl vs hn hl hc hm hk hf hr => exact ⟨_, g, w, append_none hu hi _ _ _ hl ad c, Gh.le.refl g, S, .rsl vs hn hl hc hm hk hf hr⟩
                · cases h
                  cases hs with
                  | msl hp hl hc hm => exact ⟨_, g, w, append_none hu hi _ _ _ hl ad c, Gh.le.refl g, S, .msl hp hl hc hm⟩
                · cases h
              · rename_i h0
                have hsrc := srcA_src S hxs hx hk h0
                split at h
                · split at h
                  · rename_i hb
                    cases h
                    cases hs
                    obtain ⟨v, w', g', h1, h2, h3, h4⟩ := append_nil (ty := ty) S hu hi hz hzs hsrc (by omega) (le_maxLen hby hb) hb
                    exact ⟨v, g', w', h1, h2, h3, h4⟩
                  · cases h
                · split at h
                  · rename_i hb
                    cases h
                    obtain ⟨v, w', g', h1, h2, h3, h4⟩ := append_exact (ty := ty) S hu hi hz hzs hk hs hb.1 hsrc (by omega) (le_maxLen hby hb.2) hb.2
                    exact ⟨v, g', w', h1, h2, h3, h4⟩
                  · cases h
                · split at h
                  · rename_i hb
                    split at h
                    · rename_i hc
                      obtain ⟨rfl, c1, c2, c3, c4, c5⟩ := hc
                      cases h
                      obtain ⟨v, w', g', h1, h2, h3, h4⟩ := append_own (ty := ty) S hu hi hz hzs hk hs hb c1 c2 c3 hsrc c4 (le_maxLen hby c5) c5
                      exact ⟨v, g', w', h1, h2, h3, h4⟩
                    · cases h
                  · cases h
                · cases h
            · cases h
          · cases h
        · cases h
      · cases h
    · cases h
  · cases h

/-- len -/
def lenA (P : Program) (t : TypeId) (x : AV) (H : Hp) : Option AV :=
  match P.underlying t, x with
  | some (.slice _), .rsl es _ => some (.val (.int .i64 es.length))
  | some (.slice _), .msl _ _ n => some (.val (.int .i64 n))
  | some (.slice _), .val (.slice none n _) => some (.val (.int .i64 n))
  | some (.string), .val (.string s) => some (.val (.int .i64 s.size))
  | some (.map _ _), .val (.map none) => some (.val (.int .i64 0))
  | some (.map _ _), .mp b => match H[b]? with
    | some (.amap es) => some (.val (.int .i64 es.length))
    | _ => none
  | _, _ => none

theorem lenA_run (S : Sim base w0 g H w) {t ty : TypeId} {x r : AV} {xv : Value} (h : lenA P t x H = some r) (hx : R g x xv) :
    ∃ v, (Builtin.len_ #[t] ty #[xv]).run P w = .ok v w ∧ R g r v := by
  unfold lenA at h
  split at h
  · rename_i hu
    cases h
    cases hx with
    | rnil => exact ⟨_, by simp [Builtin.len_, run_underlying hu, goInt], .val _⟩
    | rsl vs hn => subst hn; exact ⟨_, by simp [Builtin.len_, run_underlying hu, goInt], .val _⟩
  · rename_i hu
    cases h
    cases hx
    exact ⟨_, by simp [Builtin.len_, run_underlying hu, goInt], .val _⟩
  · rename_i hu
    cases h
    cases hx
    exact ⟨_, by simp [Builtin.len_, run_underlying hu, goInt], .val _⟩
  · rename_i hu
    cases h
    cases hx
    exact ⟨_, by simp [Builtin.len_, run_underlying hu, goInt], .val _⟩
  · rename_i hu
    cases h
    cases hx
    exact ⟨_, by simp [Builtin.len_, run_underlying hu, goInt], .val _⟩
  · rename_i b hu
    split at h
    · rename_i es hb
      cases h
      cases hx with
      | mp hp =>
        obtain ⟨y, o, h1, h2, h3⟩ := S.obj b _ hb (by simp)
        rw [hp] at h1; cases h1
        cases h3 with
        | amap hl hr =>
          refine ⟨_, ?_, .val _⟩
          simp [Builtin.len_, run_underlying hu, goInt, getObj, Sem.run, h2, hl]
    · cases h
  · cases h

def builtinA (P : Program) (b : Builtin) (aT : Array TypeId) (args : List AV) (H : Hp) : Option (AV × Hp) :=
  match b, aT.toList, args with
  | .len, [t], [x] => (lenA P t x H).map (·, H)
  | .append, [t, t'], [s, x] => appendA P t t' s x H
  | .max, _, args => (maxA true args).map (·, H)
  | .min, _, args => (maxA false args).map (·, H)
  | .delete, [t, _], [m, k] => (delA P t m k H).map fun H' => (.val (.tuple #[]), H')
  | _, _, _ => none

/-- of types: zero values, sizes, elements, fields -/
def zeroA (P : Program) (t : TypeId) : Option (List AV) :=
  match P.info? t with
  | some i => match i.zero with
    | some z => some (z.cells.toList.map .val)
    | none => none
  | none => none

def sizeA (P : Program) (t : TypeId) : Option Nat := (P.info? t).map (·.size)

inductive Els where
  | sl (e : TypeId) (k : Nat)
  | ar (n : Nat) (e : TypeId) (k : Nat)
  | no

def elemA (P : Program) (t : TypeId) : Els :=
  match P.underlying t with
  | some (.slice e) => match sizeA P e with
    | some k => .sl e k
    | none => .no
  | some (.array n e) => match sizeA P e with
    | some k => if 2 ≤ n then .ar n e k else .no
    | none => .no
  | _ => .no

def fieldTO (P : Program) (t : TypeId) (f : Nat) : Option (TypeId × Nat) :=
  match P.underlying t with
  | some (.struct fs) => match fs[f]? with
    | some fl => some (fl.type, fl.offset)
    | none => none
  | _ => none

def stepA (P : Program) (mu : Nat → Bool) (o : Oper) (T : Env) (H : Hp) : Option (AV × Hp) :=
  match o.op with
  | .move x => some (evA T x, H)
  | .assign x => some (evA T x, H)
  | .pick c a b => match evA T c with
    | .val (.bool t) => some (if t then evA T a else evA T b, H)
    | _ => none
  | .alloc elem => match zeroA P elem with
    | some z => some (boxA (isMu mu o.dst) elem z H)
    | none => none
  | .box elem x => some (boxA (isMu mu o.dst) elem (evA T x).cells H)
  | .build t ps => (buildA P t (partsA (evA T) ps)).map (·, H)
  | .buildSlice t len ps => match litA P t len (partsA (evA T) ps) with
    | some (es, e) => if isMu mu o.dst then some (.msl H.length 0 len, H ++ [.cells es e]) else some (.rsl es true, H)
    | none => none
  | .load t a => match evA T a with
    | .rptr cs off => (loadA P t cs off).map (·, H)
    | .mptr b i off => match H[b]? with
      | some (.cells es _) => match es[i]? with
        | some e => (loadA P t e off).map (·, H)
        | none => none
      | _ => none
    | _ => none
  | .store t a x => match evA T a with
    | .mptr b i off => match H[b]?, sizeA P t with
      | some (.cells es ty), some k => match es[i]? with
        | some e =>
          if k = (evA T x).cells.length ∧ off + (evA T x).cells.length ≤ e.length ∧ (evA T x).cells.all AV.isCell then
            some (.val undef, H.set b (.cells (es.set i (setAt e off (evA T x).cells)) ty)) else none
        | none => none
      | _, _ => none
    | _ => none
  | .nilCheck x => match evA T x with
    | .rptr cs off => some (.rptr cs off, H)
    | .mptr b i off => some (.mptr b i off, H)
    | .fn (.func f) cap => some (.fn (.func f) cap, H)
    | .val (.pointer (some a)) => some (.val (.pointer (some a)), H)
    | _ => none
  | .binOp op t x y _ => (binA P op t x y (evA T x) (evA T y)).map (·, H)
  | .unOp op _ x => (unA P op (evA T x)).map (·, H)
  | .convert src dst x => (convA P src dst (evA T x)).map (·, H)
  | .makeFunc f first captured => match f with
    | .func k => if first.size = 0 then some (.fn (.func k) (captured.toList.map (evA T)), H) else if captured.size = 0 then some (.mth k (first.toList.map (evA T)), H) else none
    | _ => none
  | .makeSlice t l c => match evA T l, evA T c with
    | .val (.int _ n), .val (.int _ m) => if n = m then (match makeA P t n with
      | some (es, e) => some (.msl H.length 0 n.toNat, H ++ [.cells es e])
      | none => none) else none
    | _, _ => none
  | .slice t x lo hi mx => (sliceA P t (evA T x) (lo.map (evA T)) (hi.map (evA T)) (mx.map (evA T))).map (·, H)
  | .fieldAddr s x f => match fieldOff P s f with
    | some d => match evA T x with
      | .rptr cs off => some (.rptr cs (off + d), H)
      | .mptr b i off => some (.mptr b i (off + d), H)
      | _ => none
    | none => none
  | .field t x f => match evA T x, fieldTO P t f with
    | .agg cs, some (ft, fo) => (loadA P ft cs fo).map (·, H)
    | .val (.agg vs), some (ft, fo) => (loadA P ft (vs.toList.map .val) fo).map (·, H)
    | _, _ => none
  | .indexAddr t x i => match evA T i with
    | .val (.int _ n) =>
      if 0 ≤ n then
        match evA T x, elemA P t with
        | .rsl es _, .sl _ k => match es[n.toNat]? with
          | some c => if c.length = k then some (.rptr c 0, H) else none
          | none => none
        | .msl b off len, .sl _ k => match H[b]? with
          | some (.cells es _) => if n.toNat < len then (match es[off + n.toNat]? with
            | some c => if c.length = k then some (.mptr b (off + n.toNat) 0, H) else none
            | none => none) else none
          | _ => none
        | .rptr cs off, .ar m _ k => if n < (m : Int) then some (.rptr cs (off + n.toNat * k), H) else none
        | .mptr b j off, .ar m _ k => if n < (m : Int) then some (.mptr b j (off + n.toNat * k), H) else none
        | _, _ => none
      else none
    | _ => none
  | .index t x i => match (evA T x).flat, (evA T i).flat with
    | some u, some v => (pureRun P (Instr.index t u v)).map (.val ·, H)
    | none, some (.int _ n) => match evA T x, elemA P t with
      | .agg cs, .ar m e k => if 0 ≤ n ∧ n < (m : Int) then (loadA P e cs (n.toNat * k)).map (·, H) else none
      | _, _ => none
    | _, _ => none
  | .extract t ix => match evA T t with
    | .tup cs => (cs[ix]?).map (·, H)
    | .val (.tuple vs) => (vs[ix]?).map (.val ·, H)
    | _ => none
  | .makeMap _ none => some (.mp H.length, H ++ [.amap []])
  | .lookup t x i ok => (lookA P t (evA T x) (evA T i) ok H).map (·, H)
  | .mapUpdate t m k v => (updA P t (evA T m) (evA T k) (evA T v) H).map fun H' => (.val undef, H')
  | .call c => match c.callee with
    | .builtin b => builtinA P b c.argTypes (c.args.toList.map (evA T)) H
    | _ => none
  | _ => none

end Go.Proofs.Ytphfdbmbdaninaa.Ab
