/- Regions that draw their order of evaluation: the order does not matter. -/
import Derived.Test.YtphfdbmbdaninaaB1
import Derived.OrdersIn
namespace Go.Proofs.Ytphfdbmbdaninaa.Ab
open Go Go.RowKit

variable {base : Nat} {w0 w w' : World} {g : Gh} {H : Hp} {P : Program}

/-! ### which operations do not look at the heap -/

def isP (mu : Nat → Bool) (o : Oper) : Bool :=
  match o.op with
  | .move _ | .assign _ | .pick .. | .build .. | .nilCheck _ | .binOp .. | .unOp .. | .convert .. | .makeFunc .. | .slice .. | .fieldAddr .. | .field .. | .index .. | .extract .. => true
  | .alloc _ | .box .. | .buildSlice .. => !isMu mu o.dst
  | .call { callee := .builtin .max, .. } => true
  | .call { callee := .builtin .min, .. } => true
  | _ => false

theorem evA_congr {T T' : Env} {x : Operand} (h : ∀ t, x = .tmp t → T t = T' t) : evA T x = evA T' x := by
  cases x with
  | tmp t => exact h t rfl
  | _ => rfl

theorem map_congr_op {T T' : Env} {xs : Array Operand} (h : ∀ x ∈ xs, evA T x = evA T' x) : xs.toList.map (evA T) = xs.toList.map (evA T') :=
  List.map_congr_left fun x hx => h x (by simpa using hx)

theorem parts_congr {T T' : Env} {ps : Array (Nat × Operand)} (h : ∀ x ∈ ps.toList.map (·.2), evA T x = evA T' x) : partsA (evA T) ps = partsA (evA T') ps := by
  unfold partsA
  refine List.map_congr_left fun p hp => ?_
  rw [h p.2 (List.mem_map.2 ⟨p, hp, rfl⟩)]

theorem stepA_congr {mu : Nat → Bool} {o : Oper} {T T' : Env} (h : ∀ x ∈ o.op.operands, evA T x = evA T' x) : stepA P mu o T H = stepA P mu o T' H := by
  obtain ⟨dst, op, type, pos, after, guard⟩ := o
  cases op with
  | build t ps => simp only [stepA]; rw [parts_congr fun x hx => h x (by simpa [Op.operands] using hx)]
  | buildSlice t n ps => simp only [stepA]; rw [parts_congr fun x hx => h x (by simpa [Op.operands] using hx)]
  | makeFunc f first captured =>
    simp only [stepA]
    rw [map_congr_op (xs := captured) fun x hx => h x (by simp [Op.operands, hx]), map_congr_op (xs := first) fun x hx => h x (by simp [Op.operands, hx])]
  | slice t x lo hi mx =>
    have e0 := h x (by simp [Op.operands])
    have e1 : lo.map (evA T) = lo.map (evA T') := by cases lo with
      | none => rfl
      | some y => exact congrArg some (h y (by simp [Op.operands]))
    have e2 : hi.map (evA T) = hi.map (evA T') := by cases hi with
      | none => rfl
      | some y => exact congrArg some (h y (by simp [Op.operands]))
    have e3 : mx.map (evA T) = mx.map (evA T') := by cases mx with
      | none => rfl
      | some y => exact congrArg some (h y (by simp [Op.operands]))
    simp only [stepA, e0, e1, e2, e3]
  | call c =>
    obtain ⟨callee, args, aT⟩ := c
    cases callee with
    | builtin b => simp only [stepA]; rw [map_congr_op (xs := args) fun x hx => h x (by simp [Op.operands, Call.operands, hx])]
    | _ => rfl
  | pick c a b => have e1 := h c (by simp [Op.operands]); have e2 := h a (by simp [Op.operands]); have e3 := h b (by simp [Op.operands]); simp only [stepA, e1, e2, e3]
  | store t a x => have e1 := h a (by simp [Op.operands]); have e2 := h x (by simp [Op.operands]); simp only [stepA, e1, e2]
  | binOp op t x y t' => have e1 := h x (by simp [Op.operands]); have e2 := h y (by simp [Op.operands]); simp only [stepA, e1, e2]
  | makeSlice t l c => have e1 := h l (by simp [Op.operands]); have e2 := h c (by simp [Op.operands]); simp only [stepA, e1, e2]
  | indexAddr t x i => have e1 := h x (by simp [Op.operands]); have e2 := h i (by simp [Op.operands]); simp only [stepA, e1, e2]
  | lookup t x i ok => have e1 := h x (by simp [Op.operands]); have e2 := h i (by simp [Op.operands]); simp only [stepA, e1, e2]
  | mapUpdate t m k v => have e1 := h m (by simp [Op.operands]); have e2 := h k (by simp [Op.operands]); have e3 := h v (by simp [Op.operands]); simp only [stepA, e1, e2, e3]
  | makeMap t r => cases r <;> rfl
  | index t x i => have e1 := h x (by simp [Op.operands]); have e2 := h i (by simp [Op.operands]); simp only [stepA, e1, e2]
  | move x => have e1 := h x (by simp [Op.operands]); simp only [stepA, e1]
  | assign x => have e1 := h x (by simp [Op.operands]); simp only [stepA, e1]
  | box e x => have e1 := h x (by simp [Op.operands]); simp only [stepA, e1]
  | load t x => have e1 := h x (by simp [Op.operands]); simp only [stepA, e1]
  | nilCheck x => have e1 := h x (by simp [Op.operands]); simp only [stepA, e1]
  | unOp op t x => have e1 := h x (by simp [Op.operands]); simp only [stepA, e1]
  | convert s d x => have e1 := h x (by simp [Op.operands]); simp only [stepA, e1]
  | fieldAddr s x f => have e1 := h x (by simp [Op.operands]); simp only [stepA, e1]
  | field t x f => have e1 := h x (by simp [Op.operands]); simp only [stepA, e1]
  | extract t ix => have e1 := h t (by simp [Op.operands]); simp only [stepA, e1]
  | _ => rfl

theorem stepA_P {mu : Nat → Bool} {o : Oper} {T : Env} {v : AV} {H' : Hp} (hp : isP mu o = true) (h : stepA P mu o T H = some (v, H')) (H2 : Hp) : H' = H ∧ stepA P mu o T H2 = some (v, H2) := by
  have mp : ∀ (x : Option AV), x.map (·, H) = some (v, H') → H' = H ∧ x.map (·, H2) = some (v, H2) := by
    intro x hx
    cases x with
    | none => cases hx
    | some y => cases hx; exact ⟨rfl, rfl⟩
  obtain ⟨dst, op, type, pos, after, guard⟩ := o
  cases op with
  | move x => simp only [stepA, Option.some.injEq, Prod.mk.injEq] at h ⊢; exact ⟨h.2.symm, h.1, trivial⟩
  | assign x => simp only [stepA, Option.some.injEq, Prod.mk.injEq] at h ⊢; exact ⟨h.2.symm, h.1, trivial⟩
  | pick c a b =>
    simp only [stepA] at h ⊢
    split at h
    · simp only [Option.some.injEq, Prod.mk.injEq] at h ⊢; exact ⟨h.2.symm, h.1, trivial⟩
    · cases h
  | build t ps => simp only [stepA] at h ⊢; exact mp _ h
  | nilCheck x =>
    simp only [stepA] at h ⊢
    split at h <;> first
      | (cases h; done)
      | (simp only [Option.some.injEq, Prod.mk.injEq] at h ⊢; exact ⟨h.2.symm, h.1, trivial⟩)
  | binOp op t x y t' => simp only [stepA] at h ⊢; exact mp _ h
  | unOp op t x => simp only [stepA] at h ⊢; exact mp _ h
  | convert s d x => simp only [stepA] at h ⊢; exact mp _ h
  | makeFunc f first captured =>
    simp only [stepA] at h ⊢
    split at h
    · split at h
      · rename_i h0; rw [if_pos h0]; simp only [Option.some.injEq, Prod.mk.injEq] at h ⊢; exact ⟨h.2.symm, h.1, trivial⟩
      · split at h
        · rename_i h0 h1; rw [if_neg h0, if_pos h1]; simp only [Option.some.injEq, Prod.mk.injEq] at h ⊢; exact ⟨h.2.symm, h.1, trivial⟩
        · cases h
    · cases h
  | slice t x lo hi mx => simp only [stepA] at h ⊢; exact mp _ h
  | fieldAddr s x f =>
    simp only [stepA] at h ⊢
    split at h
    · split at h <;> first
        | (cases h; done)
        | (simp only [Option.some.injEq, Prod.mk.injEq] at h ⊢; exact ⟨h.2.symm, h.1, trivial⟩)
    · cases h
  | field t x f =>
    simp only [stepA] at h ⊢
    split at h <;> first
      | (cases h; done)
      | exact mp _ h
  | index t x i =>
    simp only [stepA] at h ⊢
    split at h
    · rename_i u v' _ _
      cases hq : pureRun P (Instr.index t u v') with
      | none => rw [hq] at h; cases h
      | some z => rw [hq] at h; cases h; exact ⟨rfl, rfl⟩
    · split at h
      · split at h
        · rename_i hc; rw [if_pos hc]; exact mp _ h
        · cases h
      · cases h
    · cases h
  | extract t ix =>
    simp only [stepA] at h ⊢
    split at h
    · exact mp _ h
    · rename_i vs _
      cases hq : vs[ix]? with
      | none => rw [hq] at h; cases h
      | some z => rw [hq] at h; cases h; exact ⟨rfl, rfl⟩
    · cases h
  | alloc e =>
    simp only [isP, Bool.not_eq_true'] at hp
    simp only [stepA, hp, boxA] at h ⊢
    split at h
    · simp only [Bool.false_eq_true, if_false, Option.some.injEq, Prod.mk.injEq] at h ⊢; exact ⟨h.2.symm, h.1, trivial⟩
    · cases h
  | box e x =>
    simp only [isP, Bool.not_eq_true'] at hp
    simp only [stepA, hp, boxA] at h ⊢
    simp only [Bool.false_eq_true, if_false, Option.some.injEq, Prod.mk.injEq] at h ⊢; exact ⟨h.2.symm, h.1, trivial⟩
  | buildSlice t n ps =>
    simp only [isP, Bool.not_eq_true'] at hp
    simp only [stepA, hp] at h ⊢
    split at h
    · simp only [Bool.false_eq_true, if_false, Option.some.injEq, Prod.mk.injEq] at h ⊢; exact ⟨h.2.symm, h.1, trivial⟩
    · cases h
  | call c =>
    obtain ⟨callee, args, aT⟩ := c
    cases callee with
    | builtin b =>
      cases b <;> first
        | (simp [isP] at hp; done)
        | (simp only [stepA, builtinA] at h ⊢; exact mp _ h)
    | _ => simp [isP] at hp
  | _ => simp [isP] at hp

end Go.Proofs.Ytphfdbmbdaninaa.Ab
