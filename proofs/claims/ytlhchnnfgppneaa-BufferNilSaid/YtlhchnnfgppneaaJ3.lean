/- Buffers: the law BufferNil, by running it with what the arguments hold left open. -/
import Derived.Test.YtlhchnnfgppneaaJ2
namespace Go.Proofs.Ytlhchnnfgppneaa.Ab
open Go Go.RowKit Go.Proofs
set_option linter.unusedSimpArgs false
set_option linter.unusedVariables false
attribute [local irreducible] Awp wpO thenQ blockQ bodyQ ACalls stepA

def xAns : Option XR → Option Value
  | some (_, _, _, .val v, _) => some v
  | _ => none

theorem run_call {P : Program} (hm : P.follows .mixedOrders = true) {ora : Ora} (ho : OraOk P ora) (muF : FuncId → Nat → Bool) (fuel : Nat) {f : FuncId} {args : List AV} {H : Hp} {v : Value} (h : xAns (xRun P ora muF fuel (.call (.fn (.func f) []) args H)) = some v) :
    ACalls P f args H fun u _ => u = .val v := by
  unfold xAns at h
  split at h
  · rename_i e T1 H1 u t hx
    cases h
    have h := (xRun_ok hm ho muF fuel fuel (Nat.le_refl _) _ _ _ _ _ _ hx).1
    have h2 : ACalls P f (args ++ []) H fun v1 H' => v1 = .val v ∧ H' = H1 := h
    rw [List.append_nil] at h2
    exact h2.mono fun v' H' h => h.1
  · cases h

theorem BufferNil_ok (r : Item) (n : Int) : ACalls Try.prog 13 [.agg r.cs, iv n] [] fun v _ => v = bv true :=
  run_call (by kernel_rfl) insX_ok ownF 3000 (by kernel_rfl)

def sh13 : List (Bool × List Sh) := [(true, [I, I, I, I, I]), (false, [I])]
theorem law13 : ∀ xs, ArgsFit sh13 xs → ACalls Try.prog 13 xs [] fun v _ => v = .val (.bool true) := by
  intro xs h0
  obtain ⟨a, _, rfl, h1⟩ := itemArg3 h0
  obtain ⟨x, l, rfl, h3, h4⟩ := argF h1
  obtain ⟨c, _, e, _, h5⟩ := fitK h3
  obtain rfl := fit0 h5
  cases e
  obtain rfl := arg0 h4
  exact BufferNil_ok a c

end Go.Proofs.Ytlhchnnfgppneaa.Ab
