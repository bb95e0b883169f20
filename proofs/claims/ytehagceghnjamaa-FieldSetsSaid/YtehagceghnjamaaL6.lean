/- A result that is nil is a row without elements. -/
import Derived.Test.YtehagceghnjamaaP4
namespace Go.Proofs.Ytehagceghnjamaa.Ab
open Go Go.RowKit Go.Proofs

theorem nilRes {P : Program} {f : FuncId} {args : List AV} {H H' : Hp} {x : AV} (h : CallsTo P f args H (.tup [nilS, x]) H') : CallsTo P f args H (.tup [.rsl [] false, x]) H' :=
  ⟨h.1, fun base w0 g w vs S hr => (h.2 base w0 g w vs S hr).mono fun e w' ⟨v, a, H1, g', k1, ⟨k2, k3⟩, k4, k5, k6⟩ => by
    refine ⟨v, _, H1, g', k1, ⟨rfl, k3⟩, k4, k5, ?_⟩
    rw [k2] at k6
    cases k6 with
    | tup hl hr =>
      refine .tup hl fun j c w hc hw => ?_
      match j with
      | 0 =>
        have := hr 0 nilS w rfl hw
        cases hc
        cases this
        exact .rnil none
      | 1 => exact hr 1 c w hc hw
      | j + 2 => simp at hc⟩

end Go.Proofs.Ytehagceghnjamaa.Ab
