/- Best: choices and parcels, plain. -/
import Derived.Test.YtlhchnnfgppneaaN0
import Derived.Laws.BitsAllLaws
namespace Go.Proofs.Ytlhchnnfgppneaa.Ab
open Go Go.RowKit Go.Proofs
set_option linter.unusedSimpArgs false
set_option linter.unusedVariables false
attribute [local irreducible] Awp wpO thenQ blockQ bodyQ ACalls stepA

/-- a choice: its bits and sums -/
structure Ch where
  bits : Nat
  worth : Int
  size : Int
def u32v (x : Int) : AV := .val (.int .u32 x)
def Ch.cs (c : Ch) : List AV := [u32v (c.bits : Nat), iv c.worth, iv c.size]
def chs (l : List Ch) : List (List AV) := l.map Ch.cs
theorem chs_len (l : List Ch) : (chs l).length = l.length := by simp [chs]
theorem chs_at {l : List Ch} {k : Nat} {x : Ch} (h : l[k]? = some x) : (chs l)[k]? = some [.val (.int .u32 x.bits), iv x.worth, iv x.size] := nthMap Ch.cs h
theorem chs_three (l : List Ch) : ∀ e ∈ chs l, e.length = 3 := by
  intro e he
  obtain ⟨r, _, rfl⟩ := List.mem_map.1 he
  rfl
theorem chs_app (v : List Ch) (c : Ch) : chs v ++ [[.val (.int .u32 c.bits), iv c.worth, iv c.size]] = chs (v ++ [c]) := by simp [chs, Ch.cs, u32v]
/-- a parcel -/
structure Pr where
  size : Int
  worth : Int
def Pr.cs (p : Pr) : List AV := [iv p.size, iv p.worth]
def prs (l : List Pr) : List (List AV) := l.map Pr.cs
theorem prs_len (l : List Pr) : (prs l).length = l.length := by simp [prs]
theorem prs_at {l : List Pr} {k : Nat} {x : Pr} (h : l[k]? = some x) : (prs l)[k]? = some [iv x.size, iv x.worth] := nthMap Pr.cs h
theorem prs_two (l : List Pr) : ∀ e ∈ prs l, e.length = 2 := by
  intro e he
  obtain ⟨r, _, rfl⟩ := List.mem_map.1 he
  rfl
theorem prs_take (l : List Pr) (i : Nat) : prs (l.take i) = (prs l).take i := by unfold prs; rw [List.map_take]
theorem prs_drop (l : List Pr) (i : Nat) : prs (l.drop i) = (prs l).drop i := by unfold prs; rw [List.map_drop]

/-- one more parcel in a choice -/
def Ch.add (c : Ch) (b : Nat) (p : Pr) : Ch := ⟨c.bits + 2 ^ b, c.worth + p.worth, c.size + p.size⟩
/-- all choices, from the parcels on, the first of which has the bit h; in the order in which they are made -/
def subs : List Pr → Nat → Ch → List Ch
  | [], _, c => [c]
  | p :: l, h, c => subs l (h - 1) c ++ subs l (h - 1) (c.add h p)
theorem subs_len : ∀ (l : List Pr) (h : Nat) (c : Ch), (subs l h c).length = 2 ^ l.length
  | [], _, _ => rfl
  | p :: l, h, c => by
    unfold subs
    rw [List.length_append, subs_len l, subs_len l, List.length_cons, Nat.pow_succ]; omega

def betB (c d : Ch) : Bool := decide (d.worth < c.worth ∨ (c.worth = d.worth ∧ (c.size < d.size ∨ (c.size = d.size ∧ d.bits < c.bits))))

theorem betB_or (c d : Ch) : decide (orL [sgn c.worth d.worth, sgn d.size c.size, sgn c.bits d.bits] > 0) = betB c d := by
  unfold betB
  congr 1
  unfold sgn
  simp only [orL]
  refine propext ?_
  repeat' split
  all_goals omega

def Pr.ok (p : Pr) : Prop := (1 ≤ p.size ∧ p.size ≤ 16777216) ∧ 0 ≤ p.worth ∧ p.worth ≤ 1048576
instance (p : Pr) : Decidable p.ok := by unfold Pr.ok; infer_instance

/-- a bit that is set, a bit that is added -/
theorem shl32 (h : Nat) (hh : h ≤ 23) (a b : Operand) : binA Try.prog .shl 91 a b (.val (.int .u32 1)) (iv (h : Nat)) = some (.val (.int .u32 ((2 ^ h : Nat) : Int))) := by
  show intA Try.prog .shl 91 .u32 1 .i64 h = _
  unfold intA
  have e : binOp .shl 91 (.int .u32 1) (.int .i64 h) = pure (.int .u32 (IntKind.u32.wrap (1 * 2 ^ (h : Int).toNat))) := shift_shl .u32 .i64 1 h (by omega) (by simp only [IntKind.bits]; omega)
  have hp : 2 ^ h ≤ 2 ^ 23 := Nat.pow_le_pow_right (by omega) hh
  have e2 : IntKind.u32.wrap (1 * 2 ^ (h : Int).toNat) = ((2 ^ h : Nat) : Int) := by
    rw [Int.toNat_natCast, Int.one_mul, IntKind.wrap_u32']
    have e3 : ((2 ^ h : Nat) : Int) = 2 ^ h := by simp
    rw [← e3]; generalize 2 ^ h = z at *; omega
  rw [e2] at e
  simp only [e]
  rfl
theorem or32 (x y : Nat) (hx : x < 16777216) (hy : y < 16777216) (a b : Operand) : binA Try.prog .or 91 a b (.val (.int .u32 x)) (.val (.int .u32 y)) = some (.val (.int .u32 ((x ||| y : Nat) : Int))) := by
  show intA Try.prog .or 91 .u32 x .u32 y = _
  unfold intA
  have e : binOp .or 91 (.int .u32 x) (.int .u32 y) = pure (.int .u32 (Go.bits .or .u32 (x : Int) (y : Int))) := rfl
  rw [u32_or_nat x y (by omega) (by omega)] at e
  simp only [e]
  rfl
theorem or_add {x h : Nat} (hx : x % 2 ^ (h + 1) = 0) : x ||| 2 ^ h = x + 2 ^ h := nat_join (h + 1) x (2 ^ h) hx (by rw [Nat.pow_succ]; have := Nat.two_pow_pos h; omega)

end Go.Proofs.Ytlhchnnfgppneaa.Ab
