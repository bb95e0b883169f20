/- Regions that draw their order of evaluation: whatever the order, it comes to what the order of the text comes to. -/
import Derived.Test.YtphfdbmbdaninaaB3
namespace Go.Proofs.Ytphfdbmbdaninaa.Ab
open Go Go.RowKit

variable {base : Nat} {w0 w w' : World} {g : Gh} {H : Hp} {P : Program}

theorem PerfTo.congr {mu : Nat → Bool} {o : Oper} {T T' : Env} {v : AV} {H' : Hp} (he : ∀ x ∈ o.op.operands, evA T x = evA T' x) (h : PerfTo P mu o T H v H') : PerfTo P mu o T' H v H' := by
  unfold PerfTo at h ⊢
  split
  · rename_i f args e
    rw [e] at h
    obtain ⟨aT, ho⟩ := callOf_eq e
    have e1 := he f (by simp [ho, Op.operands, Call.operands])
    have e2 := map_congr_op (xs := args) (T := T) (T' := T') fun x hx => he x (by simp [ho, Op.operands, Call.operands, hx])
    simp only at h
    rw [← e1, ← e2]
    exact h
  · rename_i e
    rw [e] at h
    simp only at h
    rw [← stepA_congr he]
    exact h

structure StepR (P : Program) (mu : Nat → Bool) (n : Nat) (W : Draw) (i : Nat) (dsts : List (Option Tmp)) (o : Oper) (T : Env) (H : Hp) (v : AV) (T' : Env) (H' : Hp) : Prop where
  dst : dstOk n o.dst = true
  put : T' = putA T o.dst v
  how : ∃ b, guardA dsts o.guard T = some b ∧ (b = true → PerfTo P mu o T H v H' ∧ okD P mu (some W) i o T H v H') ∧ (b = false → v = .val undef ∧ H' = H)

theorem guardA_more {done more : List (Option Tmp)} {gd : Option (Nat × Bool)} {T : Env} {b : Bool} (h : guardA done gd T = some b) : guardA (done ++ more) gd T = some b := by
  cases gd with
  | none => exact h
  | some p =>
    obtain ⟨j, want⟩ := p
    simp only [guardA] at h ⊢
    split at h
    · rename_i s hs
      rw [List.getElem?_append_left (List.getElem?_eq_some_iff.1 hs).1, hs]
      exact h
    · cases h

theorem trace_of {mu : Nat → Bool} {n : Nat} {W : Draw} {K : Env → Hp → Prop} : ∀ (l : List Oper) (done : List (Option Tmp)) (T : Env) (H : Hp), wpO P mu n (some W) done l T H K →
    ∃ (Ts : Nat → Env) (Hs : Nat → Hp) (vs : Nat → AV), Ts 0 = T ∧ Hs 0 = H ∧ K (Ts l.length) (Hs l.length) ∧
      ∀ (i : Nat) (o : Oper), l[i]? = some o → StepR P mu n W (done.length + i) (done ++ l.map (·.dst)) o (Ts i) (Hs i) (vs i) (Ts (i + 1)) (Hs (i + 1))
  | [], done, T, H, h => ⟨fun _ => T, fun _ => H, fun _ => .val undef, rfl, rfl, h, by simp⟩
  | o :: rest, done, T, H, h => by
    obtain ⟨hd, b, hb, h1, h2⟩ := h
    have key : ∃ v H', ((b = true → PerfTo P mu o T H v H' ∧ okD P mu (some W) done.length o T H v H') ∧ (b = false → v = .val undef ∧ H' = H)) ∧ wpO P mu n (some W) (done ++ [o.dst]) rest (putA T o.dst v) H' K := by
      cases b with
      | true =>
        obtain ⟨v, H', k1, k2, k3⟩ := h1 rfl
        exact ⟨v, H', ⟨fun _ => ⟨k1, k2⟩, fun h => by cases h⟩, k3⟩
      | false => exact ⟨.val undef, H, ⟨fun h => (by cases h), fun _ => ⟨rfl, rfl⟩⟩, h2 rfl⟩
    obtain ⟨v, H', hs, hk⟩ := key
    obtain ⟨Ts, Hs, vs, t0, h0, hK, hst⟩ := trace_of rest _ _ _ hk
    refine ⟨fun i => match i with | 0 => T | i + 1 => Ts i, fun i => match i with | 0 => H | i + 1 => Hs i, fun i => match i with | 0 => v | i + 1 => vs i, rfl, rfl, hK, fun i x hx => ?_⟩
    cases i with
    | zero =>
      simp only [List.getElem?_cons_zero, Option.some.injEq] at hx
      subst hx
      refine ⟨hd, t0, b, guardA_more hb, ?_⟩
      show (b = true → PerfTo P mu o T H v (Hs 0) ∧ okD P mu (some W) (done.length + 0) o T H v (Hs 0)) ∧ (b = false → v = .val undef ∧ Hs 0 = H)
      rw [h0]
      exact hs
    | succ i =>
      have := hst i x (by simpa using hx)
      simp only [List.length_append, List.length_cons, List.length_nil] at this
      rw [show done.length + (0 + 1) + i = done.length + (i + 1) by omega, List.append_assoc] at this
      simpa using this

/-! ### the check of an order -/

def confl (mu : Nat → Bool) (W : Draw) (i j : Nat) (x y : Oper) : Bool := (W.ev i && (W.ev j || !(isP mu y || W.rf j))) || (W.ev j && !(isP mu x || W.rf i))

def drawOk (mu : Nat → Bool) (W : Draw) (ops : Array Oper) (bs : List Nat) : Bool :=
  (List.range ops.size).all fun i => match ops[i]? with
    | none => false
    | some x =>
      x.after.all (fun e => !Region.binds .any e || decide (e.on < i)) &&
      (match x.op with | .select .. => false | _ => true) &&
      (List.range ops.size).all fun j => match ops[j]? with
        | none => false
        | some y =>
          (!(bs.getD i 0).testBit j || x.after.any (fun e => Region.binds .any e && (e.on == j || (bs.getD e.on 0).testBit j))) &&
          (!decide (i < j) || (bs.getD j 0).testBit i || (x.apart ops y && !confl mu W i j x y))

structure Drawn (mu : Nat → Bool) (W : Draw) (ops : Array Oper) (bs : List Nat) : Prop where
  back : ∀ (i : Nat) (x : Oper), ops[i]? = some x → ∀ e ∈ x.after, Region.binds .any e = true → e.on < i
  cert : ∀ (i j : Nat) (x : Oper), ops[i]? = some x → j < ops.size → (bs.getD i 0).testBit j = true → ∃ e ∈ x.after, Region.binds .any e = true ∧ (e.on = j ∨ (bs.getD e.on 0).testBit j = true)
  free : ∀ (i j : Nat) (x y : Oper), ops[i]? = some x → ops[j]? = some y → i < j → (bs.getD j 0).testBit i = true ∨ (x.apart ops y = true ∧ confl mu W i j x y = false)

theorem drawOk_spec {mu : Nat → Bool} {W : Draw} {ops : Array Oper} {bs : List Nat} (h : drawOk mu W ops bs = true) : Drawn mu W ops bs := by
  unfold drawOk at h
  rw [List.all_eq_true] at h
  have hi : ∀ (i : Nat) (x : Oper), ops[i]? = some x → i < ops.size := fun i x hx => (Array.getElem?_eq_some_iff.1 hx).1
  refine ⟨fun i x hx e he hb => ?_, fun i j x hx hj ht => ?_, fun i j x y hx hy hij => ?_⟩
  · have := h i (List.mem_range.2 (hi i x hx))
    rw [hx] at this
    simp only [Bool.and_eq_true] at this
    have := Array.all_eq_true_iff_forall_mem.1 this.1.1 e he
    simpa [hb] using this
  · have := h i (List.mem_range.2 (hi i x hx))
    rw [hx] at this
    simp only [Bool.and_eq_true] at this
    have := List.all_eq_true.1 this.2 j (List.mem_range.2 hj)
    have hy : ops[j]? = some ops[j] := Array.getElem?_eq_getElem hj
    rw [hy] at this
    simp only [Bool.and_eq_true, ht, Bool.not_true, Bool.false_or, Array.any_eq_true'] at this
    obtain ⟨e, he, h1⟩ := this.1
    simp only [Bool.or_eq_true, beq_iff_eq] at h1
    exact ⟨e, he, h1.1, h1.2⟩
  · have := h i (List.mem_range.2 (hi i x hx))
    rw [hx] at this
    simp only [Bool.and_eq_true] at this
    have := List.all_eq_true.1 this.2 j (List.mem_range.2 (hi j y hy))
    rw [hy] at this
    simp only [Bool.and_eq_true, Bool.or_eq_true, Bool.not_eq_true', decide_eq_false_iff_not] at this
    rcases this.2 with (h1 | h1) | h1
    · exact absurd hij h1
    · exact .inl h1
    · exact .inr h1

/-! ### what stands when some of the operations have been done -/

section done
variable (ops : Array Oper) (T0 : Env) (H0 : Hp) (Hs : Nat → Hp) (vs : Nat → AV) (ev : Nat → Bool) (L : Nat → Bool)

def Tc : Nat → Env
  | 0 => T0
  | i + 1 => if L i then putA (Tc i) ((ops[i]?).bind (·.dst)) (vs i) else Tc i

def Hc : Nat → Hp
  | 0 => H0
  | i + 1 => if L i && ev i then Hs (i + 1) else Hc i
end done

theorem putA_ne {T : Env} {dst : Option Tmp} {v : AV} {t : Nat} (h : dst ≠ some t) : putA T dst v t = T t := by
  cases dst with
  | none => rfl
  | some d =>
    show (if t = d then v else T t) = T t
    rw [if_neg (fun e => h (by rw [e]))]

theorem putA_eq {T : Env} {v : AV} {t : Nat} : putA T (some t) v t = v := by
  show (if t = t then v else T t) = v
  rw [if_pos rfl]

section main
variable {ops : Array Oper} {T0 : Env} {H0 : Hp} {Ts : Nat → Env} {Hs : Nat → Hp} {vs : Nat → AV} {W : Draw} {mu : Nat → Bool} {n : Nat} {bs : List Nat}

/-- up to m all that writes slot t has been done: the slot is what it is in the order of the text -/
theorem Tc_upto {L : Nat → Bool} (t0 : Ts 0 = T0) (hst : ∀ (i : Nat) (o : Oper), ops[i]? = some o → StepR P mu n W i (ops.toList.map (·.dst)) o (Ts i) (Hs i) (vs i) (Ts (i + 1)) (Hs (i + 1))) (t : Nat) :
    ∀ m, m ≤ ops.size → (∀ j o, j < m → ops[j]? = some o → o.dst = some t → L j = true) → Tc ops T0 vs L m t = Ts m t
  | 0, _, _ => by rw [t0]; rfl
  | m + 1, hm, h => by
    have ih := Tc_upto t0 hst t m (by omega) (fun j o hj => h j o (by omega))
    have ho : ops[m]? = some ops[m] := Array.getElem?_eq_getElem (by omega)
    have hs := (hst m _ ho).put
    have hd : (ops[m]?).bind (·.dst) = ops[m].dst := by rw [ho]; rfl
    show (if L m then putA (Tc ops T0 vs L m) ((ops[m]?).bind (·.dst)) (vs m) else Tc ops T0 vs L m) t = _
    rw [hs, hd]
    by_cases hw : ops[m].dst = some t
    · rw [if_pos (h m _ (by omega) ho hw), hw, putA_eq, putA_eq]
    · rw [putA_ne hw, ← ih]
      split
      · exact putA_ne hw
      · rfl

/-- from m on nothing that writes slot t has been done -/
theorem Tc_from {L : Nat → Bool} (t m : Nat) : ∀ k, (∀ j o, m ≤ j → j < m + k → ops[j]? = some o → o.dst = some t → L j = false) → Tc ops T0 vs L (m + k) t = Tc ops T0 vs L m t
  | 0, _ => rfl
  | k + 1, h => by
    have ih := Tc_from t m k (fun j o h1 h2 => h j o h1 (by omega))
    rw [← ih]
    show (if L (m + k) then putA (Tc ops T0 vs L (m + k)) ((ops[m + k]?).bind (·.dst)) (vs (m + k)) else Tc ops T0 vs L (m + k)) t = _
    split
    · rename_i hl
      refine putA_ne fun hd => ?_
      obtain ⟨o, ho, hd⟩ := Option.bind_eq_some_iff.1 hd
      rw [h (m + k) o (by omega) (by omega) ho hd] at hl
      cases hl
    · rfl

theorem Hc_upto {L : Nat → Bool} (h0 : Hs 0 = H0) (hst : ∀ (i : Nat) (o : Oper), ops[i]? = some o → StepR P mu n W i (ops.toList.map (·.dst)) o (Ts i) (Hs i) (vs i) (Ts (i + 1)) (Hs (i + 1))) :
    ∀ m, m ≤ ops.size → (∀ j, j < m → W.ev j = true → L j = true) → Hc H0 Hs W.ev L m = Hs m
  | 0, _, _ => by rw [h0]; rfl
  | m + 1, hm, h => by
    have ih := Hc_upto h0 hst m (by omega) (fun j hj => h j (by omega))
    have ho : ops[m]? = some ops[m] := Array.getElem?_eq_getElem (by omega)
    show (if L m && W.ev m then Hs (m + 1) else Hc H0 Hs W.ev L m) = _
    cases he : W.ev m with
    | true => rw [h m (by omega) he]; rfl
    | false =>
      rw [Bool.and_false, if_neg (by simp), ih]
      obtain ⟨b, _, h1, h2⟩ := (hst m _ ho).how
      cases b with
      | true => exact ((h1 rfl).2.1 he).symm
      | false => exact (h2 rfl).2.symm

theorem Hc_from {L : Nat → Bool} (m : Nat) : ∀ k, (∀ j, m ≤ j → j < m + k → W.ev j = true → L j = false) → Hc H0 Hs W.ev L (m + k) = Hc H0 Hs W.ev L m
  | 0, _ => rfl
  | k + 1, h => by
    have ih := Hc_from m k (fun j h1 h2 => h j h1 (by omega))
    rw [← ih]
    have hc : ¬ (L (m + k) && W.ev (m + k)) = true := by
      intro hc
      simp only [Bool.and_eq_true] at hc
      rw [h (m + k) (by omega) (by omega) hc.2] at hc
      cases hc.1
    show (if L (m + k) && W.ev (m + k) then Hs (m + k + 1) else Hc H0 Hs W.ev L (m + k)) = _
    rw [if_neg hc]

def setL (L : Nat → Bool) (i : Nat) : Nat → Bool := fun j => if j = i then true else L j

theorem Tc_setL {L : Nat → Bool} {i : Nat} {o : Oper} (ho : ops[i]? = some o) (hL : L i = false) (t : Nat) :
    ∀ k, (∀ j x, i < j → j < i + 1 + k → ops[j]? = some x → L j = true → o.dst = some t → x.dst ≠ some t) → Tc ops T0 vs (setL L i) (i + 1 + k) t = if o.dst = some t then vs i else Tc ops T0 vs L (i + 1 + k) t
  | 0, _ => by
    have pre : ∀ m, m ≤ i → Tc ops T0 vs (setL L i) m = Tc ops T0 vs L m := by
      intro m
      induction m with
      | zero => intro _; rfl
      | succ m ih =>
        intro hm
        have hne : m ≠ i := by omega
        show (if setL L i m then putA (Tc ops T0 vs (setL L i) m) _ _ else Tc ops T0 vs (setL L i) m) = (if L m then putA (Tc ops T0 vs L m) _ _ else Tc ops T0 vs L m)
        rw [ih (by omega), show setL L i m = L m from if_neg hne]
    show (if setL L i i then putA (Tc ops T0 vs (setL L i) i) ((ops[i]?).bind (·.dst)) (vs i) else _) t = if o.dst = some t then vs i else (if L i then _ else Tc ops T0 vs L i) t
    rw [show setL L i i = true from if_pos rfl, if_pos rfl, pre i (Nat.le_refl _), hL, ho]
    simp only [Option.bind_some, Bool.false_eq_true, if_false]
    by_cases hd : o.dst = some t
    · rw [if_pos hd, hd, putA_eq]
    · rw [if_neg hd, putA_ne hd]
  | k + 1, h => by
    have ih := Tc_setL ho hL t k (fun j x h1 h2 => h j x h1 (by omega))
    have hne : i + 1 + k ≠ i := by omega
    show (if setL L i (i + 1 + k) then putA (Tc ops T0 vs (setL L i) (i + 1 + k)) ((ops[i + 1 + k]?).bind (·.dst)) (vs (i + 1 + k)) else Tc ops T0 vs (setL L i) (i + 1 + k)) t =
      if o.dst = some t then vs i else (if L (i + 1 + k) then putA (Tc ops T0 vs L (i + 1 + k)) ((ops[i + 1 + k]?).bind (·.dst)) (vs (i + 1 + k)) else Tc ops T0 vs L (i + 1 + k)) t
    rw [show setL L i (i + 1 + k) = L (i + 1 + k) from if_neg hne]
    cases hl : L (i + 1 + k) with
    | false => simp only [Bool.false_eq_true, if_false]; exact ih
    | true =>
      simp only [if_true]
      by_cases hd : (ops[i + 1 + k]?).bind (·.dst) = some t
      · obtain ⟨x, hx, hxd⟩ := Option.bind_eq_some_iff.1 hd
        rw [hd, putA_eq, putA_eq]
        by_cases hod : o.dst = some t
        · exact absurd hxd (h _ x (by omega) (by omega) hx hl hod)
        · rw [if_neg hod]
      · rw [putA_ne hd, putA_ne hd]; exact ih

theorem Hc_setL {L : Nat → Bool} {i : Nat} (hL : L i = false) : ∀ k, (∀ j, i < j → j < i + 1 + k → L j = true → W.ev i = true → W.ev j = false) →
    Hc H0 Hs W.ev (setL L i) (i + 1 + k) = if W.ev i then Hs (i + 1) else Hc H0 Hs W.ev L (i + 1 + k)
  | 0, _ => by
    have pre : ∀ m, m ≤ i → Hc H0 Hs W.ev (setL L i) m = Hc H0 Hs W.ev L m := by
      intro m
      induction m with
      | zero => intro _; rfl
      | succ m ih =>
        intro hm
        have hne : m ≠ i := by omega
        show (if setL L i m && W.ev m then Hs (m + 1) else Hc H0 Hs W.ev (setL L i) m) = (if L m && W.ev m then Hs (m + 1) else Hc H0 Hs W.ev L m)
        rw [ih (by omega), show setL L i m = L m from if_neg hne]
    show (if setL L i i && W.ev i then Hs (i + 1) else Hc H0 Hs W.ev (setL L i) i) = if W.ev i then Hs (i + 1) else (if L i && W.ev i then _ else Hc H0 Hs W.ev L i)
    rw [show setL L i i = true from if_pos rfl, pre i (Nat.le_refl _), hL]
    simp
  | k + 1, h => by
    have ih := Hc_setL hL k (fun j h1 h2 => h j h1 (by omega))
    have hne : i + 1 + k ≠ i := by omega
    show (if setL L i (i + 1 + k) && W.ev (i + 1 + k) then Hs (i + 1 + k + 1) else Hc H0 Hs W.ev (setL L i) (i + 1 + k)) = if W.ev i then Hs (i + 1) else (if L (i + 1 + k) && W.ev (i + 1 + k) then Hs (i + 1 + k + 1) else Hc H0 Hs W.ev L (i + 1 + k))
    rw [show setL L i (i + 1 + k) = L (i + 1 + k) from if_neg hne, ih]
    by_cases he : W.ev i = true
    · rw [if_pos he, if_pos he, if_neg]
      intro hc
      simp only [Bool.and_eq_true] at hc
      rw [h _ (by omega) (by omega) hc.1 he] at hc
      cases hc.2
    · rw [if_neg he, if_neg he]

/-- the heap that stands is one that stood in the order of the text -/
theorem Hc_is {L : Nat → Bool} : ∀ m, Hc H0 Hs W.ev L m = H0 ∨ ∃ k, k < m ∧ Hc H0 Hs W.ev L m = Hs (k + 1)
  | 0 => .inl rfl
  | m + 1 => by
    show (if L m && W.ev m then Hs (m + 1) else Hc H0 Hs W.ev L m) = H0 ∨ ∃ k, k < m + 1 ∧ (if L m && W.ev m then Hs (m + 1) else Hc H0 Hs W.ev L m) = Hs (k + 1)
    split
    · exact .inr ⟨m, by omega, rfl⟩
    · rcases Hc_is m with h | ⟨k, hk, h⟩
      · exact .inl h
      · exact .inr ⟨k, by omega, h⟩

theorem Hs_agree (hst : ∀ (i : Nat) (o : Oper), ops[i]? = some o → StepR P mu n W i (ops.toList.map (·.dst)) o (Ts i) (Hs i) (vs i) (Ts (i + 1)) (Hs (i + 1))) : ∀ m, m ≤ ops.size → W.agree (Hs 0) (Hs m)
  | 0, _ => .refl _ _
  | m + 1, hm => by
    refine (Hs_agree hst m (by omega)).trans ?_
    obtain ⟨b, _, h1, h2⟩ := (hst m _ (Array.getElem?_eq_getElem (by omega))).how
    cases b with
    | true => exact (h1 rfl).2.2.1
    | false => rw [(h2 rfl).2]; exact .refl _ _

theorem Hc_agree {L : Nat → Bool} (h0 : Hs 0 = H0) (hst : ∀ (i : Nat) (o : Oper), ops[i]? = some o → StepR P mu n W i (ops.toList.map (·.dst)) o (Ts i) (Hs i) (vs i) (Ts (i + 1)) (Hs (i + 1))) (m : Nat) (hm : m ≤ ops.size) (i : Nat) (hi : i ≤ ops.size) :
    W.agree (Hs i) (Hc H0 Hs W.ev L m) := by
  refine (Hs_agree hst i hi).symm.trans ?_
  rcases Hc_is (W := W) (H0 := H0) (Hs := Hs) (L := L) m with h | ⟨k, hk, h⟩
  · rw [h, h0]; exact .refl _ _
  · rw [h]; exact Hs_agree hst (k + 1) (by omega)

end main

end Go.Proofs.Ytphfdbmbdaninaa.Ab
