/- Helpers: heaps; what arguments are fields, observations, lists of numbers; short inputs. -/
import Derived.Test.YtehagceghnjamaaG4
import Derived.Test.YtehagceghnjamaaR1
namespace Go.Proofs.Ytehagceghnjamaa.Ab
open Go Go.RowKit Go.Proofs
set_option linter.unusedSimpArgs false
set_option linter.unusedVariables false
attribute [local irreducible] Awp wpO thenQ blockQ bodyQ ACalls stepA

theorem get_mid4 (L Y Z U V : Hp) (x : AObj) : (L ++ [x] ++ Y ++ Z ++ U ++ V)[L.length]? = some x := by simp
theorem get_mid5 (L Y Z U V W : Hp) (x : AObj) : (L ++ [x] ++ Y ++ Z ++ U ++ V ++ W)[L.length]? = some x := by simp
theorem set_mid4 (L Y Z U V : Hp) (x c : AObj) : (L ++ [x] ++ Y ++ Z ++ U ++ V).set L.length c = L ++ [c] ++ Y ++ Z ++ U ++ V := by simp
theorem set_mid5 (L Y Z U V W : Hp) (x c : AObj) : (L ++ [x] ++ Y ++ Z ++ U ++ V ++ W).set L.length c = L ++ [c] ++ Y ++ Z ++ U ++ V ++ W := by simp

theorem get_sndB (L : Hp) (x y : AObj) (Z U : Hp) : (L ++ [x] ++ [y] ++ Z ++ U)[L.length + 1]? = some y := by simp
theorem set_sndB (L : Hp) (x y c : AObj) (Z U : Hp) : (L ++ [x] ++ [y] ++ Z ++ U).set (L.length + 1) c = L ++ [x] ++ [c] ++ Z ++ U := by simp
theorem get_trdB (L : Hp) (x y z : AObj) (U : Hp) : (L ++ [x] ++ [y] ++ [z] ++ U)[L.length + 2]? = some z := by simp
theorem set_trd (L : Hp) (x y z c : AObj) : (L ++ [x] ++ [y] ++ [z]).set (L.length + 2) c = L ++ [x] ++ [y] ++ [c] := by simp
theorem set_trdB (L : Hp) (x y z c : AObj) (U : Hp) : (L ++ [x] ++ [y] ++ [z] ++ U).set (L.length + 2) c = L ++ [x] ++ [y] ++ [c] ++ U := by simp

theorem get_trdC (L : Hp) (x y z : AObj) (U V : Hp) : (L ++ [x] ++ [y] ++ [z] ++ U ++ V)[L.length + 2]? = some z := by simp
theorem set_trdC (L : Hp) (x y z c : AObj) (U V : Hp) : (L ++ [x] ++ [y] ++ [z] ++ U ++ V).set (L.length + 2) c = L ++ [x] ++ [y] ++ [c] ++ U ++ V := by simp
theorem get_trd0 (L : Hp) (x y z : AObj) : (L ++ [x] ++ [y] ++ [z])[L.length + 2]? = some z := by simp

def ints (v : List Int) : List (List AV) := v.map fun x => [iv x]
theorem ints_len (v : List Int) : (ints v).length = v.length := by simp [ints]
theorem ints_get {v : List Int} {n : Nat} (h : n < v.length) : (ints v)[n]? = some [iv (v.getD n 0)] := by
  simp [ints, List.getElem?_eq_getElem h, List.getD_eq_getElem?_getD]

theorem intsAll (v : List Int) : (ints v).all (fun e => e.length == 1) = true := by simp [ints]
theorem intsTake {v : List Int} {n : Nat} (h : v.length = n) : (ints v).take n = ints v := List.take_of_length_le (by simp [ints, h])
theorem intsApp (v : List Int) (x : Int) : ints v ++ [[iv x]] = ints (v ++ [x]) := by simp [ints]

theorem seenFit (x : List AV) (h : Fits [I, I, I, I] x) : ∃ s : Seen, x = s.cs := by
  obtain ⟨a, _, rfl, _, h⟩ := fitK h
  obtain ⟨b, _, rfl, _, h⟩ := fitK h
  obtain ⟨c, _, rfl, _, h⟩ := fitK h
  obtain ⟨d, _, rfl, _, h⟩ := fitK h
  obtain rfl := fit0 h
  exact ⟨⟨a, b, c, d⟩, rfl⟩

theorem fdFit (x : List AV) (h : Fits [I, I, I, I, I, I, I] x) : ∃ f : Fd, x = f.cs := by
  obtain ⟨a, _, rfl, _, h⟩ := fitK h
  obtain ⟨b, _, rfl, _, h⟩ := fitK h
  obtain ⟨c, _, rfl, _, h⟩ := fitK h
  obtain ⟨d, _, rfl, _, h⟩ := fitK h
  obtain ⟨e, _, rfl, _, h⟩ := fitK h
  obtain ⟨f, _, rfl, _, h⟩ := fitK h
  obtain ⟨g, _, rfl, _, h⟩ := fitK h
  obtain rfl := fit0 h
  exact ⟨⟨a, b, c, d, e, f, g⟩, rfl⟩

def fdS : Bool × List Sh := (true, [I, I, I, I, I, I, I])
def seenS : Bool × List Sh := (false, [.sl 32 [I, I, I, I]])

theorem fdArg {r : List (Bool × List Sh)} {xs : List AV} (h : ArgsFit (fdS :: r) xs) : ∃ (f : Fd) (l : List AV), xs = .agg f.cs :: l ∧ ArgsFit r l := by
  obtain ⟨bs, l, rfl, h1, h2⟩ := argT h
  obtain ⟨f, rfl⟩ := fdFit bs h1
  exact ⟨f, l, rfl, h2⟩

theorem seenArg {r : List (Bool × List Sh)} {xs : List AV} (h : ArgsFit (seenS :: r) xs) : ∃ (s : List Seen) (ex : Bool) (l : List AV), xs = .rsl (s.map Seen.cs) ex :: l ∧ ArgsFit r l := by
  obtain ⟨a, l, rfl, h1, h2⟩ := argF h
  obtain ⟨es, ex, bs, e, h3, _, _, h4⟩ := fitL h1
  cases e
  obtain ⟨s, rfl⟩ := fitMap Seen.cs seenFit es h3
  exact ⟨s, ex, l, rfl, h2⟩

theorem perf_call {P : Program} {mu : Nat → Bool} {s : Nat} {f : Operand} {args : Array Operand} {aT : Array TypeId} {ty : TypeId} {pos : String} {aft} {T : Env} {v : AV} {H2 : Hp} {k' : FuncId} {as' : List AV}
    (hf : evA T f = .fn (.func k') []) (ha : args.toList.map (evA T) ++ [] = as') (h : CallsTo P k' as' H2 v H2) : PerfTo P mu ⟨some s, .call ⟨.value f, args, aT⟩, ty, pos, aft, none⟩ T H2 v H2 := by
  subst ha
  show ACallV P (evA T f) (args.toList.map (evA T)) H2 (fun v1 H1 => v1 = v ∧ H1 = H2)
  rw [hf]; exact h

theorem code_ne5 (f : Fd) (l : List Seen) : f.code l ≠ 5 := by
  unfold Fd.code
  split
  · split
    · decide
    · split <;> decide
  · decide

theorem consistent_iff {f : Fd} {l : List Seen} : consistent f l ↔ ¬ long f l.length ∧ f.all l = 0 := by
  unfold consistent
  refine and_congr_right fun _ => ?_
  unfold conE Fd.all
  by_cases hc : f.code l = 0
  · rw [if_pos hc, if_pos hc]
    rcases con f l with _ | ⟨i, k⟩
    · simp
    · simp
  · rw [if_neg hc, if_neg hc]
    have := code_ne5 f l
    simp only
    constructor
    · intro h; exact absurd h this
    · intro h; exact absurd h hc

theorem short {f : Fd} {l : List Seen} (hf : f.ok) (h : ¬ long f l.length) (h64 : l.length ≤ 64) : f.n ≤ 30 ∧ l.length ≤ 12 := by
  have hn := hf.nn
  unfold long at h
  by_cases h1 : l.length ≤ 12
  · refine ⟨?_, h1⟩
    by_cases h2 : (f.last + 1) * f.cells > 30
    · exact absurd (.inl ⟨hf, h2⟩) h
    · omega
  · exact absurd (.inr (.inl ⟨by omega, h64⟩)) h

/-- the number of a spot, as the program computes it -/
theorem at_num {f : Fd} (hf : f.ok) {k : Nat} (hk : k < f.n) : IntKind.i64.wrap (IntKind.i64.wrap (IntKind.i64.wrap ((f.at k).m * f.w) * f.h) + (f.at k).c) = (k : Int) := by
  have hx := Fd.at_has hf hk
  have hs := hx.small hf
  have hn := hf.nn
  have hc := hf.cells
  have e1 : (f.at k).m = (k : Int) / f.cells := Int.tdiv_eq_ediv_of_nonneg (by omega)
  have e2 : (f.at k).c = (k : Int) % f.cells := Int.tmod_eq_emod_of_nonneg (by omega)
  have e3 := Int.mul_ediv_add_emod (k : Int) f.cells
  have m1 := mul_in (a := (f.at k).m) (A := 8) (B := 8) (by omega) (by omega) (show 0 ≤ f.w by have := hf.1; omega) hf.2.1
  have m2 := mul_in (a := (f.at k).m * f.w) (A := 64) (B := 8) (by omega) (by omega) (show 0 ≤ f.h by have := hf.2.2.1; omega) hf.2.2.2.1
  have e4 : (f.at k).m * f.w * f.h = f.cells * (f.at k).m := by unfold Fd.cells; rw [Int.mul_assoc, Int.mul_comm]
  rw [w64 (x := (f.at k).m * f.w) (by omega) (by omega), w64 (x := (f.at k).m * f.w * f.h) (by omega) (by omega), w64 (by omega) (by omega), e4, e1, e2]
  exact e3

abbrev U16 : Sh := .int .u16
abbrev U32 : Sh := .int .u32
theorem intArg {k : IntKind} {r : List (Bool × List Sh)} {xs : List AV} (h : ArgsFit ((false, [.int k]) :: r) xs) : ∃ (n : Int) (l : List AV), xs = .val (.int k n) :: l ∧ (Lit.int k n).wf = true ∧ ArgsFit r l := by
  obtain ⟨a, l, rfl, h1, h2⟩ := argF h
  obtain ⟨n, bs, e, h3, h4⟩ := fitK h1
  cases e
  exact ⟨n, l, rfl, h3, h2⟩

theorem wfK {k : IntKind} {n : Int} (h : (Lit.int k n).wf = true) : k.min ≤ n ∧ n ≤ k.max := by
  simpa [Lit.wf] using h
theorem wf16 {n : Int} (h : (Lit.int .u16 n).wf = true) : 0 ≤ n ∧ n ≤ 65535 := wfK h
theorem wf32 {n : Int} (h : (Lit.int .u32 n).wf = true) : 0 ≤ n ∧ n ≤ 4294967295 := wfK h

def intsS : Bool × List Sh := (false, [.sl 8 [I]])
theorem intFit (x : List AV) (h : Fits [I] x) : ∃ n : Int, x = [iv n] := by
  obtain ⟨a, _, rfl, _, h⟩ := fitK h
  obtain rfl := fit0 h
  exact ⟨a, rfl⟩
theorem intsArg {r : List (Bool × List Sh)} {xs : List AV} (h : ArgsFit (intsS :: r) xs) : ∃ (v : List Int) (ex : Bool) (l : List AV), xs = .rsl (ints v) ex :: l ∧ ArgsFit r l := by
  obtain ⟨a, l, rfl, h1, h2⟩ := argF h
  obtain ⟨es, ex, bs, e, h3, _, _, h4⟩ := fitL h1
  cases e
  obtain ⟨s, rfl⟩ := fitMap (fun x : Int => [iv x]) intFit es h3
  exact ⟨s, ex, l, rfl, h2⟩

end Go.Proofs.Ytehagceghnjamaa.Ab
