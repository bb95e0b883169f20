/- Cables: what is handed back with an error. -/
import Derived.Test.YtphfdbmbdaninaaW1
namespace Go.Proofs.Ytphfdbmbdaninaa.Ab
open Go Go.RowKit Go.Proofs
set_option linter.unusedSimpArgs false
set_option linter.unusedVariables false
attribute [local irreducible] Awp wpO thenQ blockQ bodyQ ACalls stepA

theorem CallsTo.nil2 {P : Program} {f : FuncId} {args : List AV} {H : Hp} {x : AV} (h : CallsTo P f args H (.tup [nilS, x]) H) : CallsTo P f args H (.tup [.rsl [] false, x]) H := by
  unfold CallsTo ACalls at *
  refine ⟨h.1, fun base w0 g w vs S hr => ?_⟩
  refine CallsIn.mono (h.2 base w0 g w vs S hr) fun e w' ⟨v, a, H', g', h1, ⟨h2, h3⟩, h4, h5, h6⟩ => ?_
  subst h2
  refine ⟨v, _, H', g', h1, ⟨rfl, h3⟩, h4, h5, ?_⟩
  cases h6 with
  | tup hl hr =>
    refine .tup hl fun i c v hc hv => ?_
    match i with
    | 0 =>
      cases hc
      have := hr 0 _ v rfl hv
      cases this
      exact .rnil _
    | i + 1 => exact hr (i + 1) c v hc hv

/-- what is handed back of a cable that is valid -/
def ifOk {α : Type} (c : Cb) (v : List α) : List α := if c.code = 0 then v else []
theorem good_of {c : Cb} (hL : ¬ c.long) (h : c.code = 0) : c.good := ⟨hL, h⟩

/-- a row, and an error -/
def rowE (es : List (List AV)) (e : Int) : AV := .tup [.rsl es false, iv e]

end Go.Proofs.Ytphfdbmbdaninaa.Ab
