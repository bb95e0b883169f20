/- The law BufferBest, for all arguments. -/
import Derived.Test.YtlhchnnfgppneaaKR
import Derived.Test.YtlhchnnfgppneaaRE
namespace Go.Proofs.Ytlhchnnfgppneaa.Ab
open Go Go.RowKit Go.Proofs
set_option linter.unusedSimpArgs false
set_option linter.unusedVariables false
attribute [local irreducible] Awp wpO thenQ blockQ bodyQ ACalls stepA

abbrev U8b : Sh := .int .u8
theorem wfKb {k : IntKind} {n : Int} (h : (Lit.int k n).wf = true) : k.min ≤ n ∧ n ≤ k.max := by simpa [Lit.wf] using h
theorem dbFit (x : List AV) (h : Fits [U8b, U8b] x) : ∃ p : Int × Int, x = [u8w p.1, u8w p.2] ∧ (0 ≤ p.1 ∧ p.1 ≤ 255) ∧ 0 ≤ p.2 ∧ p.2 ≤ 255 := by
  obtain ⟨a, _, rfl, ha, h⟩ := fitK h
  obtain ⟨b, _, rfl, hb, h⟩ := fitK h
  obtain rfl := fit0 h
  exact ⟨(a, b), rfl, wfKb ha, wfKb hb⟩
theorem dbsFit : ∀ (es : List (List AV)), (∀ x ∈ es, Fits [U8b, U8b] x) → ∃ l : List (Int × Int), es = dbs l ∧ ∀ p ∈ l, (0 ≤ p.1 ∧ p.1 ≤ 255) ∧ 0 ≤ p.2 ∧ p.2 ≤ 255
  | [], _ => ⟨[], rfl, by simp⟩
  | x :: es, h => by
    obtain ⟨p, rfl, hp⟩ := dbFit x (h x (by simp))
    obtain ⟨l, rfl, hl⟩ := dbsFit es fun y hy => h y (by simp [hy])
    refine ⟨p :: l, rfl, fun q hq => ?_⟩
    rcases List.mem_cons.1 hq with rfl | hq
    · exact hp
    · exact hl q hq
def dbS : Bool × List Sh := (false, [.sl 2 [U8b, U8b]])
theorem dbsArg {r : List (Bool × List Sh)} {xs : List AV} (h : ArgsFit (dbS :: r) xs) : ∃ (v : List (Int × Int)) (ex : Bool) (l : List AV), xs = .rsl (dbs v) ex :: l ∧ (∀ p ∈ v, (0 ≤ p.1 ∧ p.1 ≤ 255) ∧ 0 ≤ p.2 ∧ p.2 ≤ 255) ∧ ArgsFit r l := by
  obtain ⟨a, l, rfl, h1, h2⟩ := argF h
  obtain ⟨es, ex, bs, e, h3, _, hm, h4⟩ := fitL h1
  cases e
  obtain ⟨v, rfl, hv⟩ := dbsFit es h3
  exact ⟨v, ex, l, rfl, hv, h2⟩
theorem intArgB {k : IntKind} {r : List (Bool × List Sh)} {xs : List AV} (h : ArgsFit ((false, [.int k]) :: r) xs) : ∃ (n : Int) (l : List AV), xs = .val (.int k n) :: l ∧ (Lit.int k n).wf = true ∧ ArgsFit r l := by
  obtain ⟨a, l, rfl, h1, h2⟩ := argF h
  obtain ⟨n, bs, e, h3, h4⟩ := fitK h1
  cases e
  exact ⟨n, l, rfl, h3, h2⟩

def sh10 : List (Bool × List Sh) := [dbS, (false, [.int .u16]), (false, [.int .u32]), (false, [.int .u16])]
theorem law10 : ∀ xs, ArgsFit sh10 xs → ACalls Try.prog 10 xs [] fun v _ => v = .val (.bool true) := by
  intro xs h0
  obtain ⟨v, ex, l, rfl, hv, h1⟩ := dbsArg h0
  obtain ⟨b, l, rfl, hb, h2⟩ := intArgB h1
  obtain ⟨c, l, rfl, hc, h3⟩ := intArgB h2
  obtain ⟨m, l, rfl, hm, h4⟩ := intArgB h3
  obtain rfl := arg0 h4
  have hc0 : 0 ≤ c := (wfKb hc).1
  obtain ⟨n, rfl⟩ := Int.eq_ofNat_of_zero_le hc0
  exact BufferBest_ok [] v ex b m n hv (wfKb hb) (wfKb hm)

end Go.Proofs.Ytlhchnnfgppneaa.Ab
