/- '==' of structs, as one Bool of the cells' equalities. -/
import Derived.Test.YtphfdbmbdaninaaA6
import Derived.Laws.StructEq
namespace Go.Proofs.Ytphfdbmbdaninaa.Ab
open Go Go.RowKit

variable {w : World} {P : Program}

def eqFs (rec : TypeId → Value → Value → Option Bool) (P : Program) (xs ys : Array Value) : List Field → Option Bool
  | [] => some true
  | f :: fs => if f.name ≠ "_" then
      match pureRun P (part f.type xs f.offset), pureRun P (part f.type ys f.offset) with
      | some a, some b => match rec f.type a b, eqFs rec P xs ys fs with
        | some p, some q => some (p && q)
        | _, _ => none
      | _, _ => none
    else eqFs rec P xs ys fs

def eqB (P : Program) : Nat → TypeId → Value → Value → Option Bool
  | 0, _, _, _ => none
  | d + 1, t, x, y => match P.underlying t, x, y with
    | some .bool, .bool a, .bool b => some (a == b)
    | some (.int _), .int k a, .int k' b => if k = k' then some (a == b) else none
    | some .string, .string a, .string b => some (a == b)
    | some (.struct fs), .agg xs, .agg ys => if P.stoodInHeld t = false then eqFs (eqB P d) P xs ys fs.toList else none
    | _, _, _ => none

theorem eqFs_run {rec : TypeId → Value → Value → Option Bool} {d : Nat} {xs ys : Array Value} (h : ∀ t x y r, rec t x y = some r → (Op.equalIn d t x y).run P w = .ok r w) :
    ∀ (fs : List Field) (r : Bool), eqFs rec P xs ys fs = some r → (Op.eqFields d xs ys fs).run P w = .ok r w
  | [], r, hr => by
    cases hr
    rfl
  | f :: fs, r, hr => by
    unfold eqFs at hr
    unfold Op.eqFields
    split at hr
    · rename_i hn
      rw [if_pos hn]
      split at hr
      · rename_i a b ha hb
        split at hr
        · rename_i p q hp hq
          cases hr
          simp only [Sem.run_bind, pureRun_run ha w, pureRun_run hb w, h _ _ _ _ hp, Result.andThen_ok]
          cases p
          · simp
          · simpa using eqFs_run h fs q hq
        · cases hr
      · cases hr
    · rename_i hn
      rw [if_neg hn]
      exact eqFs_run h fs r hr

theorem eqB_run : ∀ (d : Nat) (t : TypeId) (x y : Value) (r : Bool), eqB P d t x y = some r → (Op.equalIn d t x y).run P w = .ok r w
  | 0, t, x, y, r, h => by cases h
  | d + 1, t, x, y, r, h => by
    unfold eqB at h
    split at h
    · rename_i hu
      cases h
      simp [Op.equalIn, run_underlying hu]
    · rename_i hu
      split at h
      · rename_i hk
        cases h
        simp [Op.equalIn, run_underlying hu, hk]
      · cases h
    · rename_i hu
      cases h
      simp [Op.equalIn, run_underlying hu]
    · rename_i fs xs ys hu
      split at h
      · rename_i hs
        have hf : P.fieldsOf t = fs := by simp [Program.fieldsOf, hu]
        rw [run_equalIn_struct (P := P) w d t xs ys (by rw [hf]; exact hu) hs, hf]
        exact eqFs_run (fun t x y r h => eqB_run d t x y r h) _ _ h
      · cases h
    · cases h

end Go.Proofs.Ytphfdbmbdaninaa.Ab
