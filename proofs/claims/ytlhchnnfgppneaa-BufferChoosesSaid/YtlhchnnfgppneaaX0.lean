/- An interpreter of abstract values: what it comes to is so. For calls of which all is known. -/
import Derived.Test.YtlhchnnfgppneaaKC
namespace Go.Proofs.Ytlhchnnfgppneaa.Ab
open Go Go.RowKit

variable {base : Nat} {w0 w w' : World} {g : Gh} {H : Hp} {P : Program} {mu : Nat → Bool} {n : Nat} {rd : Option Nat} {T : Env}

/-- which operations leave the heap as it is -/
def keepsX (mu : Nat → Bool) (o : Oper) : Bool :=
  isP mu o || (match o.op with
    | .load .. | .indexAddr .. | .lookup .. => true
    | .call c => (match c.callee with | .builtin .len => true | _ => false)
    | _ => false)

theorem stepA_keeps {o : Oper} {v : AV} {H' : Hp} (hk : keepsX mu o = true) (h : stepA P mu o T H = some (v, H')) : H' = H := by
  unfold keepsX at hk
  rcases Bool.or_eq_true _ _ |>.mp hk with hk | hk
  · exact (stepA_P hk h H).1
  · have mp : ∀ (x : Option AV), x.map (·, H) = some (v, H') → H' = H := by
      intro x hx
      cases x with
      | none => cases hx
      | some y => cases hx; rfl
    obtain ⟨dst, op, type, pos, after, guard⟩ := o
    cases op with
    | load t a =>
      simp only [stepA] at h
      repeat' split at h
      all_goals first | (cases h; done) | exact mp _ h
    | indexAddr t x i =>
      simp only [stepA] at h
      repeat' split at h
      all_goals first | (cases h; done) | (cases h; rfl)
    | lookup t x i ok =>
      simp only [stepA] at h
      exact mp _ h
    | call c =>
      obtain ⟨callee, args, aT⟩ := c
      cases callee with
      | builtin b =>
        cases b <;> first | (cases hk; done) | skip
        simp only [stepA, builtinA] at h
        repeat' split at h
        all_goals first | contradiction | (cases h; done) | exact mp _ h
      | _ => cases hk
    | _ => cases hk

/-- at which blocks an operation looks, where this is told -/
def lookX (T : Env) (o : Oper) : Option (List Nat) :=
  match o.op with
  | .load _ a => (match evA T a with | .rptr .. => some [] | .mptr b _ _ => some [b] | _ => none)
  | .indexAddr _ x _ => (match evA T x with | .rsl .. => some [] | .rptr .. => some [] | .mptr .. => some [] | .msl b _ _ => some [b] | _ => none)
  | .lookup _ x _ _ => (match evA T x with | .mp b => some [b] | .val _ => some [] | _ => none)
  | .call ⟨.builtin .len, args, _⟩ => (match args.toList.map (evA T) with | [.mp b] => some [b] | [.rsl ..] => some [] | [.msl ..] => some [] | [.val _] => some [] | _ => none)
  | _ => none

theorem stepA_look {o : Oper} {v : AV} {H' : Hp} {l : List Nat} (hk : lookX T o = some l) (h : stepA P mu o T H = some (v, H')) (H2 : Hp) (hag : ∀ b ∈ l, H2[b]? = H[b]?) : stepA P mu o T H2 = some (v, H2) := by
  have mp : ∀ (x : Option AV), x.map (·, H) = some (v, H') → x.map (·, H2) = some (v, H2) := by
    intro x hx
    cases x with
    | none => cases hx
    | some y => cases hx; rfl
  obtain ⟨dst, op, type, pos, after, guard⟩ := o
  cases op with
  | load t a =>
    simp only [lookX] at hk
    simp only [stepA] at h ⊢
    split at hk
    · rename_i e
      rw [e] at h ⊢
      exact mp _ h
    · rename_i b i off e
      cases hk
      rw [e] at h ⊢
      dsimp only at h ⊢
      rw [hag b (by simp)]
      split at h
      · split at h
        · exact mp _ h
        · cases h
      · cases h
    · cases hk
  | indexAddr t x i =>
    simp only [lookX] at hk
    simp only [stepA] at h ⊢
    split at h
    · split at h
      · rename_i hn
        rw [if_pos hn]
        split at hk
        · rename_i e
          rw [e] at h ⊢
          repeat' split at h
          all_goals first | (cases h; done) | (cases h; simp_all; done)
        · rename_i e
          rw [e] at h ⊢
          repeat' split at h
          all_goals first | (cases h; done) | (cases h; simp_all; done)
        · rename_i e
          rw [e] at h ⊢
          repeat' split at h
          all_goals first | (cases h; done) | (cases h; simp_all; done)
        · rename_i b off len e
          cases hk
          have hb := hag b (by simp)
          rw [e] at h ⊢
          generalize elemA P t = el at h ⊢
          cases el with
          | sl e k =>
            dsimp only at h ⊢
            rw [hb]
            repeat' split at h
            all_goals first | (cases h; done) | (cases h; simp_all; done)
          | _ => cases h
        · cases hk
      · cases h
    · cases h
  | lookup t x i ok =>
    simp only [lookX] at hk
    simp only [stepA] at h ⊢
    have he : ∀ (H3 : Hp), entsA (evA T x) H3 = entsA (evA T x) H → (lookA P t (evA T x) (evA T i) ok H3).map (·, H3) = (lookA P t (evA T x) (evA T i) ok H).map (·, H3) := by
      intro H3 e
      unfold lookA
      rw [e]
    have he2 : entsA (evA T x) H2 = entsA (evA T x) H := by
      split at hk
      · rename_i b e
        cases hk
        rw [e]
        simp only [entsA, hag b (by simp)]
      · rename_i u e
        rw [e]
        cases u <;> first | rfl | (rename_i r; cases r <;> rfl)
      · cases hk
    rw [he H2 he2]
    exact mp _ h
  | call c =>
    obtain ⟨callee, args, aT⟩ := c
    cases callee with
    | builtin b =>
      cases b <;> first | (simp only [lookX] at hk; cases hk; done) | skip
      simp only [lookX] at hk
      simp only [stepA, builtinA] at h ⊢
      split at h
      · rename_i t x _ e1 e2
        have e3 : ∀ H3 : Hp, (∀ b ∈ l, H3[b]? = H[b]?) → lenA P t x H3 = lenA P t x H := by
          intro H3 hag3
          rw [e2] at hk
          unfold lenA
          generalize P.underlying t = u
          split at hk
          · rename_i heq
            cases heq
            cases hk
            cases u with
            | none => rfl
            | some d => cases d <;> first | rfl | (dsimp only; rw [hag3 _ (List.mem_singleton.2 rfl)])
          · rename_i heq; cases heq; cases u with
            | none => rfl
            | some d => cases d <;> rfl
          · rename_i heq; cases heq; cases u with
            | none => rfl
            | some d => cases d <;> rfl
          · rename_i vv heq; cases heq; cases u with
            | none => rfl
            | some d => cases d <;> cases vv <;> first | rfl | (rename_i r; cases r <;> rfl) | (rename_i r _ _; cases r <;> rfl)
          · cases hk
        rw [e3 H2 hag]
        exact mp _ h
      all_goals first | contradiction | (cases h; done) | skip
    | _ => first | (cases hk; done) | (simp [lookX] at hk; done)
  | _ => first | (cases hk; done) | (simp [lookX] at hk; done)

/-- what turns of the blocks that were there -/
def Keeps (H H' : Hp) (l : List Nat) : Prop := H.length ≤ H'.length ∧ ∀ b, b < H.length → b ∉ l → H'[b]? = H[b]?

theorem Keeps.refl (H : Hp) (l : List Nat) : Keeps H H l := ⟨Nat.le_refl _, fun _ _ _ => rfl⟩
theorem Keeps.trans {H H1 H2 : Hp} {l m : List Nat} (h : Keeps H H1 l) (k : Keeps H1 H2 m) : Keeps H H2 (l ++ m) :=
  ⟨Nat.le_trans h.1 k.1, fun b hb hm => by
    simp only [List.mem_append, not_or] at hm
    rw [k.2 b (Nat.lt_of_lt_of_le hb h.1) hm.2, h.2 b hb hm.1]⟩
theorem Keeps.app (H X : Hp) (l : List Nat) : Keeps H (H ++ X) l := ⟨by simp, fun b hb _ => List.getElem?_append_left hb⟩
theorem Keeps.set (H : Hp) (b : Nat) (o : AObj) : Keeps H (H.set b o) [b] := ⟨by simp, fun c _ hc => List.getElem?_set_ne (by simpa using fun e => hc (by simp [e]))⟩
theorem Keeps.weak {H H' : Hp} {l m : List Nat} (h : Keeps H H' l) (hl : ∀ b ∈ l, b ∈ m) : Keeps H H' m := ⟨h.1, fun b hb hm => h.2 b hb fun k => hm (hl b k)⟩

/-- which blocks an operation turns -/
def touchX (T : Env) (o : Oper) : List Nat :=
  match o.op with
  | .store _ a _ => (match evA T a with | .mptr b _ _ => [b] | _ => [])
  | .mapUpdate _ m _ _ => (match evA T m with | .mp b => [b] | _ => [])
  | .call ⟨.builtin .append, args, _⟩ => (match args.toList.map (evA T) with | .msl b _ _ :: _ => [b] | _ => [])
  | .call ⟨.builtin .delete, args, _⟩ => (match args.toList.map (evA T) with | .mp b :: _ => [b] | _ => [])
  | _ => []

theorem boxA_keeps {m : Bool} {t : TypeId} {cs : List AV} {v : AV} {H' : Hp} {l : List Nat} (h : some (boxA m t cs H) = some (v, H')) : Keeps H H' l := by
  unfold boxA at h
  cases m <;> simp at h <;> obtain ⟨_, rfl⟩ := h
  · exact Keeps.refl _ _
  · exact Keeps.app _ _ _

theorem appendA_keeps {t t' : TypeId} {s x v : AV} {H' : Hp} (h : appendA P t t' s x H = some (v, H')) : Keeps H H' (match s with | .msl b _ _ => [b] | _ => []) := by
  unfold appendA at h
  repeat' split at h
  all_goals first
    | (cases h; done)
    | (cases h; exact Keeps.refl _ _)
    | (cases h; exact Keeps.app _ _ _)
    | (cases h; exact (Keeps.set _ _ _).trans (Keeps.app _ _ []) |>.weak (by simp))

theorem stepA_touch {o : Oper} {v : AV} {H' : Hp} (h : stepA P mu o T H = some (v, H')) : Keeps H H' (touchX T o) := by
  by_cases hk : keepsX mu o = true
  · rw [stepA_keeps hk h]; exact Keeps.refl _ _
  obtain ⟨dst, op, type, pos, after, guard⟩ := o
  cases op with
  | alloc elem =>
    simp only [stepA] at h
    split at h
    · exact boxA_keeps h
    · cases h
  | box elem x =>
    simp only [stepA] at h
    exact boxA_keeps h
  | buildSlice t len ps =>
    simp only [stepA] at h
    repeat' split at h
    all_goals first | (cases h; done) | (cases h; exact Keeps.app _ _ _) | (cases h; exact Keeps.refl _ _)
  | makeSlice t l c =>
    simp only [stepA] at h
    repeat' split at h
    all_goals first | (cases h; done) | (cases h; exact Keeps.app _ _ _)
  | makeMap t r =>
    cases r with
    | none => simp only [stepA] at h; cases h; exact Keeps.app _ _ _
    | some _ => simp [stepA] at h
  | store t a x =>
    simp only [stepA] at h
    split at h
    · rename_i b i off e
      have ht : touchX T ⟨dst, .store t a x, type, pos, after, guard⟩ = [b] := by simp only [touchX, e]
      rw [ht]
      repeat' split at h
      all_goals first | (cases h; done) | (cases h; exact Keeps.set _ _ _)
    · cases h
  | mapUpdate t m k x =>
    simp only [stepA, Option.map_eq_some_iff, Prod.mk.injEq] at h
    obtain ⟨H1, h, _, rfl⟩ := h
    show Keeps H H1 (match evA T m with | .mp b => [b] | _ => [])
    generalize evA T m = mv at h
    generalize evA T k = kv at h
    unfold updA at h
    split at h
    · dsimp only
      repeat' split at h
      all_goals first | (cases h; done) | (cases h; exact Keeps.set _ _ _)
    · cases h
  | call c =>
    obtain ⟨callee, args, aT⟩ := c
    cases callee with
    | builtin b =>
      simp only [stepA] at h
      unfold builtinA at h
      split at h
      · cases hq : lenA P _ _ H with
        | none => rw [hq] at h; cases h
        | some y => rw [hq] at h; cases h; exact Keeps.refl _ _
      · rename_i t t' s x e1 e2
        refine (appendA_keeps h).weak fun c hc => ?_
        simp only [touchX, e2]
        split at hc
        · exact hc
        · cases hc
      · cases hq : maxA true _ with
        | none => rw [hq] at h; cases h
        | some y => rw [hq] at h; cases h; exact Keeps.refl _ _
      · cases hq : maxA false _ with
        | none => rw [hq] at h; cases h
        | some y => rw [hq] at h; cases h; exact Keeps.refl _ _
      · rename_i t t' m k e1 e2
        simp only [Option.map_eq_some_iff, Prod.mk.injEq] at h
        obtain ⟨H1, h, _, rfl⟩ := h
        simp only [touchX, e2]
        unfold delA at h
        split at h
        · dsimp only
          repeat' split at h
          all_goals first | (cases h; done) | (cases h; exact Keeps.set _ _ _)
        · cases h
      · cases h
    | _ => simp [stepA] at h
  | _ => first | (simp [stepA] at h; done) | (exfalso; exact hk rfl)

theorem callOf_look {o : Oper} {l : List Nat} (hk : lookX T o = some l) : callOf o = none := by
  obtain ⟨dst, op, type, pos, after, guard⟩ := o
  cases op with
  | call c =>
    obtain ⟨callee, args, aT⟩ := c
    cases callee <;> first | rfl | (cases hk; done) | (simp [lookX] at hk; done)
  | _ => rfl

theorem callOf_keeps {o : Oper} {x : Operand × Array Operand} (h : callOf o = some x) : keepsX mu o = false := by
  obtain ⟨f, args⟩ := x
  obtain ⟨aT, e⟩ := callOf_eq h
  obtain ⟨dst, op, type, pos, after, guard⟩ := o
  cases e
  rfl

/-- how it ends, the slots, the heap, the value; which blocks may have turned -/
abbrev XR := Exit × Env × Hp × AV × List Nat
/-- of each operation: at which blocks it looks, which it turns -/
abbrev XF := List (Option (List Nat) × List Nat)

def XF.touched (fl : XF) : List Nat := fl.flatMap (·.2)

def xOps (P : Program) (mu : Nat → Bool) (n : Nat) (call : AV → List AV → Hp → Option (AV × Hp × List Nat)) : List (Option Tmp) → List Oper → Env → Hp → Option (Env × Hp × XF)
  | _, [], T, H => some (T, H, [])
  | done, o :: rest, T, H =>
    if dstOk n o.dst = true then
      match guardA done o.guard T with
      | some true =>
        match (match callOf o with | some (f, args) => call (evA T f) (args.toList.map (evA T)) H | none => match stepA P mu o T H with | some (v, H') => some (v, H', touchX T o) | none => none) with
        | some (v, H', t) => match xOps P mu n call (done ++ [o.dst]) rest (putA T o.dst v) H' with
          | some (T', H'', fl) => some (T', H'', (lookX T o, t) :: fl)
          | none => none
        | none => none
      | some false => match xOps P mu n call (done ++ [o.dst]) rest (putA T o.dst (.val undef)) H with
        | some (T', H'', fl) => some (T', H'', (none, []) :: fl)
        | none => none
      | none => none
    else none

theorem xOps_keeps {call : AV → List AV → Hp → Option (AV × Hp × List Nat)} (hc : ∀ fv us H v H' t, call fv us H = some (v, H', t) → Keeps H H' t) :
    ∀ (l : List Oper) (done : List (Option Tmp)) (T : Env) (H : Hp) (T' : Env) (H' : Hp) (fl : XF), xOps P mu n call done l T H = some (T', H', fl) → Keeps H H' fl.touched
  | [], done, T, H, T', H', fl, h => by
    unfold xOps at h
    cases h
    exact Keeps.refl _ _
  | o :: rest, done, T, H, T', H', fl, h => by
    unfold xOps at h
    split at h
    · split at h
      · split at h
        · rename_i v H1 t hv
          split at h
          · rename_i T2 H2 fl2 hx
            cases h
            have h1 : Keeps H H1 t := by
              split at hv
              · exact hc _ _ _ _ _ _ hv
              · split at hv
                · rename_i hs
                  cases hv
                  exact stepA_touch hs
                · cases hv
            exact (h1.trans (xOps_keeps hc rest _ _ _ _ _ _ hx)).weak (by simp [XF.touched])
          · cases h
        · cases h
      · split at h
        · rename_i T2 H2 fl2 hx
          cases h
          exact (xOps_keeps hc rest _ _ _ _ _ _ hx).weak (by simp [XF.touched])
        · cases h
      · cases h
    · cases h

theorem xOps_ok {call : AV → List AV → Hp → Option (AV × Hp × List Nat)} (hc : ∀ fv us H v H' t, call fv us H = some (v, H', t) → ACallV P fv us H (fun v1 H1 => v1 = v ∧ H1 = H') ∧ Keeps H H' t) (W : Option Draw) (m : Nat) (S : List Nat)
    {K : Env → Hp → Prop} {T' : Env} {H' : Hp} (hK : K T' H') :
    ∀ (l : List Oper) (done : List (Option Tmp)) (T : Env) (H : Hp) (fl : XF), xOps P mu n call done l T H = some (T', H', fl) → m ≤ H.length → (∀ b ∈ fl.touched, b ∈ S) →
      (∀ D, W = some D → (∀ b, D.keep b = true → b < m ∧ b ∉ S) ∧ ∀ (j : Nat) o, l[j]? = some o → D.ev (done.length + j) = !(keepsX mu o) ∧ (D.rf (done.length + j) = true → ∃ k, (fl.getD j (none, [])).1 = some k ∧ ∀ b ∈ k, D.keep b = true)) → wpO P mu n W done l T H K
  | [], done, T, H, fl, h, _, _, _ => by
    unfold xOps at h
    cases h
    exact hK
  | o :: rest, done, T, H, fl, h, hm, hS, hW => by
    unfold xOps at h
    have hlen : (done ++ [o.dst]).length = done.length + 1 := by simp
    have next : ∀ x fl', fl = x :: fl' → ∀ D, W = some D → (∀ b, D.keep b = true → b < m ∧ b ∉ S) ∧ ∀ (j : Nat) o', rest[j]? = some o' → D.ev ((done ++ [o.dst]).length + j) = !(keepsX mu o') ∧
        (D.rf ((done ++ [o.dst]).length + j) = true → ∃ k, (fl'.getD j (none, [])).1 = some k ∧ ∀ b ∈ k, D.keep b = true) := by
      intro x fl' hfl D hD
      refine ⟨(hW D hD).1, fun j o' ho' => ?_⟩
      have := (hW D hD).2 (j + 1) o' (by simpa using ho')
      rw [hlen, show done.length + 1 + j = done.length + (j + 1) by omega]
      subst hfl
      simpa using this
    split at h
    · rename_i hd
      split at h
      · rename_i hg
        refine ⟨hd, true, hg, fun _ => ?_, fun h => (by cases h)⟩
        split at h
        · rename_i v H1 t hv
          split at h
          · rename_i T2 H2 fl2 hx
            cases h
            have hk1 : Keeps H H1 t := by
              split at hv
              · exact (hc _ _ _ _ _ _ hv).2
              · split at hv
                · rename_i hs
                  cases hv
                  exact stepA_touch hs
                · cases hv
            have ht : ∀ b ∈ t, b ∈ S := fun b hb => hS b (by simp [XF.touched, hb])
            refine Perf.of (v := v) (H' := H1) ?_ ?_ (xOps_ok hc W m S hK rest _ _ _ _ hx (Nat.le_trans hm hk1.1) (fun b hb => hS b (by simp only [XF.touched] at hb ⊢; simp [hb])) (next _ _ rfl))
            · unfold PerfTo
              split at hv
              · rename_i f us e
                rw [e]
                exact (hc _ _ _ _ _ _ hv).1
              · rename_i e
                rw [e]
                split at hv
                · rename_i hs
                  cases hv
                  exact hs
                · cases hv
            · cases W with
              | none => trivial
              | some D =>
                obtain ⟨hkeep, hj⟩ := hW D rfl
                obtain ⟨h1, h2⟩ := hj 0 o rfl
                simp only [Nat.add_zero] at h1 h2
                refine ⟨fun he => ?_, fun b hb => ?_, fun hr H3 hag => ?_⟩
                · rw [he] at h1
                  have hk : keepsX mu o = true := by
                    cases hk : keepsX mu o with
                    | true => rfl
                    | false => rw [hk] at h1; cases h1
                  split at hv
                  · rename_i f us e
                    rw [callOf_keeps e] at hk
                    cases hk
                  · split at hv
                    · rename_i hs
                      cases hv
                      exact stepA_keeps hk hs
                    · cases hv
                · obtain ⟨k1, k2⟩ := hkeep b hb
                  exact hk1.2 b (Nat.lt_of_lt_of_le k1 hm) fun hb => k2 (ht b hb)
                · obtain ⟨k, hk, hkk⟩ := h2 hr
                  have ha : lookX T o = some k := by simpa using hk
                  rw [callOf_look ha] at hv
                  unfold PerfTo
                  rw [callOf_look ha]
                  dsimp only at hv ⊢
                  split at hv
                  · rename_i hs
                    cases hv
                    exact stepA_look ha hs H3 fun b hb => hag b (hkk b hb)
                  · cases hv
          · cases h
        · cases h
      · rename_i hg
        refine ⟨hd, false, hg, fun h => (by cases h), fun _ => ?_⟩
        split at h
        · rename_i T2 H2 fl2 hx
          cases h
          exact xOps_ok hc W m S hK rest _ _ _ _ hx hm (fun b hb => hS b (by simp only [XF.touched] at hb ⊢; simp [hb])) (next _ _ rfl)
        · cases h
      · cases h
    · cases h

inductive XQ where
  | code (k : FuncId) (n : Nat) (rd : Option Nat) (c : Code) (T : Env) (H : Hp)
  | call (fv : AV) (args : List AV) (H : Hp)

/-- how a region may draw its order: blocks that were there and do not turn are looked at at any time -/
def drawX (mu : Nat → Bool) (ops : Array Oper) (m : Nat) (fl : XF) : Draw :=
  ⟨fun i => match ops[i]? with | some o => !(keepsX mu o) | none => false,
   fun i => match (fl.getD i (none, [])).1 with | some k => k.all fun b => decide (b < m) && !(fl.touched.contains b) | none => false,
   fun b => decide (b < m) && !(fl.touched.contains b)⟩

/-- what is known of a function without a look at its body -/
abbrev Ora := FuncId → List AV → Hp → Option (AV × Hp × List Nat)
def OraOk (P : Program) (ora : Ora) : Prop := ∀ k args H v H' t, ora k args H = some (v, H', t) → CallsTo P k args H v H' ∧ Keeps H H' t

/-- a call of a function -/
def xFun (P : Program) (ora : Ora) (run : XQ → Option XR) (k : FuncId) (all : List AV) (H : Hp) : Option XR :=
  match ora k all H with
  | some (v, H', t) => some (.ret, env0 [], H', v, t)
  | none => match P.funcs[k]? with
    | some fn => match fn.body with
      | some c => if callable P k = true ∧ all.length ≤ fn.ntmps then
          match run (.code k fn.ntmps none c (env0 all) H) with
          | some (.normal, T1, H1, _, t) => (match resL P T1 H1 fn.results.toList with | some vs => some (.ret, T1, H1, oneOf vs, t) | none => none)
          | some (.ret, T1, H1, _, t) => (match resL P T1 H1 fn.results.toList with | some vs => some (.ret, T1, H1, oneOf vs, t) | none => none)
          | _ => none
        else none
      | none => none
    | none => none

/-- a round of a loop over a function -/
def xYield (run : XQ → Option XR) (b : Nat) (args : List AV) (H : Hp) : Option XR :=
  match H[b]? with
  | some (.loop .ready _ f T n ps assign body _) =>
    if args.length = ps.size ∧ ps.toList.all (fun p => decide (p < n)) = true then
      match run (.code f n (some b) assign (setPs T (ps.toList.zip args)) H) with
      | some (.normal, T1, H1, _, t1) => match H1[b]? with
        | some (.loop .ready pend1 f1 T2 n1 ps1 as1 bd1 D1) =>
          match run (.code f n (some b) body T1 (H1.set b (.loop .busy pend1 f1 T2 n1 ps1 as1 bd1 D1))) with
          | some (e, T3, H3, _, t3) => match H3[b]? with
            | some (.loop _ _ f3 T4 n3 ps3 as3 bd3 D3) => (match e with
              | .normal => some (.ret, T3, H3.set b (.loop .ready none f3 T4 n3 ps3 as3 bd3 D3), .val (.bool true), t1 ++ [b] ++ t3 ++ [b])
              | .ret => some (.ret, T3, H3.set b (.loop .done (some .ret) f3 T4 n3 ps3 as3 bd3 D3), .val (.bool false), t1 ++ [b] ++ t3 ++ [b])
              | .exit id => some (.ret, T3, H3.set b (.loop .done (some (.exit id)) f3 T4 n3 ps3 as3 bd3 D3), .val (.bool false), t1 ++ [b] ++ t3 ++ [b])
              | _ => none)
            | _ => none
          | none => none
        | _ => none
      | _ => none
    else none
  | _ => none

/-- a region that draws its order but for the last operation -/
def xLast (P : Program) (mu : Nat → Bool) (n : Nat) (call : AV → List AV → Hp → Option (AV × Hp × List Nat)) (ops : Array Oper) (T : Env) (H : Hp) : Option XR :=
  match ops.back? with
  | some last => match xOps P mu n call [] ops.pop.toList T H with
    | some (T1, H1, fl1) =>
      if drawOk mu (drawX mu ops.pop H.length fl1) ops.pop (Region.before ops.pop).toList = true ∧ lastOk ops.pop last = true then
        match xOps P mu n call (ops.pop.toList.map (·.dst)) [last] T1 H1 with
        | some (T2, H2, fl2) => some (.normal, T2, H2, .val undef, fl1.touched ++ fl2.touched)
        | none => none
      else none
    | none => none
  | none => none

/-- the operations of a region -/
def xReg (P : Program) (mu : Nat → Bool) (run : XQ → Option XR) (n : Nat) (ops : Array Oper) (d : Bool) (T : Env) (H : Hp) : Option XR :=
  match xOps P mu n (fun fv us H => match run (.call fv us H) with | some (_, _, H', v, t) => some (v, H', t) | none => none) [] ops.toList T H with
  | some (T1, H1, fl) => if d = true then (if drawOk mu (drawX mu ops H.length fl) ops (Region.before ops).toList = true then some (.normal, T1, H1, .val undef, fl.touched)
      else xLast P mu n (fun fv us H => match run (.call fv us H) with | some (_, _, H', v, t) => some (v, H', t) | none => none) ops T H) else some (.normal, T1, H1, .val undef, fl.touched)
  | none => none

/-- a range over a function -/
def xRange (run : XQ → Option XR) (k n : Nat) (rd : Option Nat) (gop : Operand) (ps : Array Tmp) (assign body : Code) (T : Env) (H : Hp) : Option XR :=
  match evA T gop with
  | .fn (.func k2) cap =>
    match (match rd with | none => true | some b0 => match H[b0]? with | some (.loop ..) => true | _ => false) with
    | true => match run (.call (.fn (.func k2) cap) [.fn (.yield H.length) []] (H ++ [.loop .ready none k T n ps assign body 0])) with
      | some (_, _, H2, _, t2) => match H2[H.length]? with
        | some (.loop st pend _ _ _ _ _ _ _) => (match st with
          | .busy => none
          | _ => match pend with
            | none => some (.normal, T, H2.set H.length .dead, .val undef, t2)
            | some c => match run (.code k n rd c T (H2.set H.length .dead)) with
              | some (e, T3, H3, v3, t3) => some (e, T3, H3, v3, t2 ++ t3)
              | none => none)
        | _ => none
      | none => none
    | false => none
  | _ => none

def xRun (P : Program) (ora : Ora) (muF : FuncId → Nat → Bool) : Nat → XQ → Option XR
  | 0, _ => none
  | fuel + 1, .code k n rd c T H =>
    match c with
    | .skip => some (.normal, T, H, .val undef, [])
    | .ret => some (.ret, T, H, .val undef, [])
    | .exit id => some (.exit id, T, H, .val undef, [])
    | .seq x y => match xRun P ora muF fuel (.code k n rd x T H) with
      | some (.normal, T1, H1, _, t1) => (match xRun P ora muF fuel (.code k n rd y T1 H1) with
        | some (e, T2, H2, v, t2) => some (e, T2, H2, v, t1 ++ t2)
        | none => none)
      | r => r
    | .cond c x y => match evA T c with
      | .val (.bool t) => xRun P ora muF fuel (.code k n rd (if t then x else y) T H)
      | _ => none
    | .block id c => match xRun P ora muF fuel (.code k n rd c T H) with
      | some (.exit i, T1, H1, v, t) => some (if i = id then .normal else .exit i, T1, H1, v, t)
      | r => r
    | .loop c => match xRun P ora muF fuel (.code k n rd c T H) with
      | some (.normal, T1, H1, _, t1) => (match xRun P ora muF fuel (.code k n rd (.loop c) T1 H1) with
        | some (e, T2, H2, v, t2) => some (e, T2, H2, v, t1 ++ t2)
        | none => none)
      | r => r
    | .region _ ops d => xReg P (muF k) (fun q => xRun P ora muF fuel q) n ops d T H
    | .rangeFunc gop ps assign body => xRange (fun q => xRun P ora muF fuel q) k n rd gop ps assign body T H
    | _ => none
  | fuel + 1, .call fv args H =>
    match fv with
    | .fn (.func k) cap => xFun P ora (fun q => xRun P ora muF fuel q) k (args ++ cap) H
    | .mth k pre => xFun P ora (fun q => xRun P ora muF fuel q) k (pre ++ args) H
    | .fn (.yield b) [] => xYield (fun q => xRun P ora muF fuel q) b args H
    | _ => none

/-- what a request asks for -/
def XGood (P : Program) (q : XQ) (e : Exit) (T' : Env) (H' : Hp) (v : AV) (t : List Nat) : Prop :=
  match q with
  | .code _ n rd c T H => (∀ Q : Exit → Env → Hp → Prop, Q e T' H' → Awp P n rd c T H Q) ∧ Keeps H H' t
  | .call fv args H => ACallV P fv args H (fun v1 H1 => v1 = v ∧ H1 = H') ∧ Keeps H H' t

def XSound (P : Program) (run : XQ → Option XR) : Prop := ∀ q e T' H' v t, run q = some (e, T', H', v, t) → XGood P q e T' H' v t

theorem xFun_ok {ora : Ora} (ho : OraOk P ora) {run : XQ → Option XR} (hr : XSound P run) {k : FuncId} {all : List AV} {e : Exit} {T' : Env} {H' : Hp} {v : AV} {t : List Nat} (h : xFun P ora run k all H = some (e, T', H', v, t)) :
    ACalls P k all H (fun v1 H1 => v1 = v ∧ H1 = H') ∧ Keeps H H' t := by
  unfold xFun at h
  split at h
  · rename_i hx
    cases h
    exact ho _ _ _ _ _ _ hx
  · split at h
    · rename_i fn hfn
      split at h
      · rename_i c hb
        split at h
        · rename_i hcl
          split at h
          · rename_i T1 H1 z t1 hx
            split at h
            · rename_i vs hv
              cases h
              exact ⟨ACalls.of_body hfn hb hcl.1 hcl.2 ((hr _ _ _ _ _ _ hx).1 _ ⟨.inl rfl, vs, _, _, hv, Vs.refl _ _ _, rfl, rfl⟩), (hr _ _ _ _ _ _ hx).2⟩
            · cases h
          · rename_i T1 H1 z t1 hx
            split at h
            · rename_i vs hv
              cases h
              exact ⟨ACalls.of_body hfn hb hcl.1 hcl.2 ((hr _ _ _ _ _ _ hx).1 _ ⟨.inr rfl, vs, _, _, hv, Vs.refl _ _ _, rfl, rfl⟩), (hr _ _ _ _ _ _ hx).2⟩
            · cases h
          · cases h
        · cases h
      · cases h
    · cases h

theorem xYield_ok {run : XQ → Option XR} (hr : XSound P run) {b : Nat} {args : List AV} {e : Exit} {T' : Env} {H' : Hp} {v : AV} {t : List Nat} (h : xYield run b args H = some (e, T', H', v, t)) :
    AYield P b args H (fun v1 H1 => v1 = v ∧ H1 = H') ∧ Keeps H H' t := by
  unfold xYield at h
  split at h
  · rename_i pend f T n ps assign body D hb
    split at h
    · rename_i hps
      split at h
      · rename_i T1 H1 z t1 hx
        split at h
        · rename_i pend1 f1 T2 n1 ps1 as1 bd1 D1 hb1
          split at h
          · rename_i e3 T3 H3 z3 t3 hx3
            split at h
            · rename_i st3 pend3 f3 T4 n3 ps3 as3 bd3 D3 hb3
              have hkeep : ∀ o, Keeps H (H3.set b o) (t1 ++ [b] ++ t3 ++ [b]) := fun o => (((hr _ _ _ _ _ _ hx).2.trans (Keeps.set _ _ _)).trans (hr _ _ _ _ _ _ hx3).2).trans (Keeps.set _ _ _)
              have hbody : ∀ v1 H5, roundQ b H (fun v2 H2 => v2 = v1 ∧ H2 = H5) e3 T3 H3 → AYield P b args H (fun v2 H2 => v2 = v1 ∧ H2 = H5) := fun v1 H5 hq =>
                AYield.of_body hb hps.1 (fun p hp => by simpa using List.all_eq_true.1 hps.2 p hp) ((hr _ _ _ _ _ _ hx).1 _ ⟨rfl, pend1, f1, T2, n1, ps1, as1, bd1, D1, hb1, (hr _ _ _ _ _ _ hx3).1 _ hq⟩)
              split at h
              · cases h; exact ⟨hbody _ _ ⟨_, _, _, _, _, _, _, _, _, hb3, _, Vs.refl _ _ _, rfl, rfl⟩, hkeep _⟩
              · cases h; exact ⟨hbody _ _ ⟨_, _, _, _, _, _, _, _, _, hb3, _, Vs.refl _ _ _, rfl, rfl⟩, hkeep _⟩
              · cases h; exact ⟨hbody _ _ ⟨_, _, _, _, _, _, _, _, _, hb3, _, Vs.refl _ _ _, rfl, rfl⟩, hkeep _⟩
              · cases h
            · cases h
          · cases h
        · cases h
      · cases h
    · cases h
  · cases h

theorem drawX_ok {ops : Array Oper} {m : Nat} {fl : XF} : ∀ D, some (drawX mu ops m fl) = some D → (∀ b, D.keep b = true → b < m ∧ b ∉ fl.touched) ∧ ∀ (j : Nat) o, ops.toList[j]? = some o → D.ev (([] : List (Option Tmp)).length + j) = !(keepsX mu o) ∧
    (D.rf (([] : List (Option Tmp)).length + j) = true → ∃ k, (fl.getD j (none, [])).1 = some k ∧ ∀ b ∈ k, D.keep b = true) := by
  intro D hD
  cases hD
  refine ⟨fun b hb => ?_, fun j o ho => ?_⟩
  · simp only [drawX, Bool.and_eq_true, decide_eq_true_eq, Bool.not_eq_true', List.contains_eq_mem, decide_eq_false_iff_not] at hb
    exact hb
  · simp only [List.length_nil, Nat.zero_add, drawX]
    have ho' : ops[j]? = some o := by simpa using ho
    rw [ho']
    refine ⟨rfl, fun hrf => ?_⟩
    split at hrf
    · rename_i k hkk
      exact ⟨k, hkk, fun b hb => List.all_eq_true.1 hrf b hb⟩
    · cases hrf

theorem pop_push {ops : Array Oper} {last : Oper} (h : ops.back? = some last) : ops = ops.pop.push last := by
  apply Array.ext'
  rw [Array.toList_push, Array.toList_pop]
  have : ops.toList.getLast? = some last := by rw [← h]; simp [Array.back?, List.getLast?_eq_getElem?]
  obtain ⟨l, hl⟩ := List.getLast?_eq_some_iff.1 this
  rw [hl, List.dropLast_concat]

theorem xLast_ok (hm : P.follows .mixedOrders = true) {call : AV → List AV → Hp → Option (AV × Hp × List Nat)} (hc : ∀ fv us H v H' t, call fv us H = some (v, H', t) → ACallV P fv us H (fun v1 H1 => v1 = v ∧ H1 = H') ∧ Keeps H H' t)
    {id : Nat} {ops : Array Oper} {e : Exit} {T' : Env} {H' : Hp} {v : AV} {t : List Nat} (h : xLast P mu n call ops T H = some (e, T', H', v, t)) :
    (∀ Q : Exit → Env → Hp → Prop, Q e T' H' → Awp P n rd (.region id ops true) T H Q) ∧ Keeps H H' t := by
  have hck : ∀ fv us H v H' t, call fv us H = some (v, H', t) → Keeps H H' t := fun fv us H v H' t h => (hc fv us H v H' t h).2
  unfold xLast at h
  split at h
  · rename_i last hb
    split at h
    · rename_i T1 H1 fl1 hx1
      split at h
      · rename_i hok
        split at h
        · rename_i T2 H2 fl2 hx2
          cases h
          refine ⟨fun Q hq => ?_, (xOps_keeps hck _ _ _ _ _ _ _ hx1).trans (xOps_keeps hck _ _ _ _ _ _ _ hx2)⟩
          rw [pop_push hb]
          refine Awp.drawnLast hm mu _ _ hok.1 hok.2 (xOps_ok hc _ H.length fl1.touched ?_ _ _ _ _ _ hx1 (Nat.le_refl _) (fun _ h => h) drawX_ok)
          exact xOps_ok hc none 0 fl2.touched hq _ _ _ _ _ hx2 (Nat.zero_le _) (fun _ h => h) fun D hD => (by cases hD)
        · cases h
      · cases h
    · cases h
  · cases h

theorem xReg_ok {run : XQ → Option XR} (hm : P.follows .mixedOrders = true) (hr : XSound P run) {id : Nat} {ops : Array Oper} {d : Bool} {e : Exit} {T' : Env} {H' : Hp} {v : AV} {t : List Nat} (h : xReg P mu run n ops d T H = some (e, T', H', v, t)) :
    (∀ Q : Exit → Env → Hp → Prop, Q e T' H' → Awp P n rd (.region id ops d) T H Q) ∧ Keeps H H' t := by
  have hc : ∀ fv us H v H' t, (match run (.call fv us H) with | some (_, _, H', v, t) => some (v, H', t) | none => none) = some (v, H', t) → ACallV P fv us H (fun v1 H1 => v1 = v ∧ H1 = H') ∧ Keeps H H' t := by
    intro fv us H v H' t h
    split at h
    · rename_i e1 T1 H1 v1 t1 hx
      cases h
      exact hr _ _ _ _ _ _ hx
    · cases h
  unfold xReg at h
  split at h
  · rename_i T1 H1 fl hx
    have hk := xOps_keeps (fun fv us H v H' t h => (hc fv us H v H' t h).2) _ _ _ _ _ _ _ hx
    cases d with
    | true =>
      rw [if_pos rfl] at h
      split at h
      · rename_i hok
        cases h
        exact ⟨fun Q hq => drw hm mu _ hok (xOps_ok hc _ H.length fl.touched hq _ _ _ _ _ hx (Nat.le_refl _) (fun _ h => h) drawX_ok), hk⟩
      · exact xLast_ok hm hc h
    | false =>
      simp only [Bool.false_eq_true, if_false] at h
      cases h
      exact ⟨fun Q hq => Awp.region (mu := mu) fun K hK => xOps_ok hc none 0 fl.touched (hK _ _ hq) _ _ _ _ _ hx (Nat.zero_le _) (fun _ h => h) fun D hD => (by cases hD), hk⟩
  · cases h

/-- what a loop's record says of its function and its marks does not matter -/
theorem Sim.reLoop {st : LoopState} {pend : Option Code} {f f' : FuncId} {T : Env} {n : Nat} {ps : Array Tmp} {assign body : Code} {D D' : Nat} (S : Sim base w0 g (H ++ [.loop st pend f T n ps assign body D]) w) :
    Sim base w0 g (H ++ [.loop st pend f' T n ps assign body D']) w := by
  have hl : (H ++ [AObj.loop st pend f T n ps assign body D]).length = (H ++ [AObj.loop st pend f' T n ps assign body D']).length := by simp
  have back : ∀ (b : Nat) (ob : AObj), (H ++ [AObj.loop st pend f' T n ps assign body D'])[b]? = some ob → ob ≠ .dead →
      ∃ oc, (H ++ [AObj.loop st pend f T n ps assign body D])[b]? = some oc ∧ oc ≠ .dead ∧ ∀ (g : Gh) (k cp : Nat) (o : Obj), ORel g k cp oc o → ORel g k cp ob o := by
    intro b ob hb hn
    by_cases h : b < H.length
    · rw [List.getElem?_append_left h] at hb ⊢
      exact ⟨ob, hb, hn, fun _ _ _ _ h => h⟩
    · have hlt := (List.getElem?_eq_some_iff.1 hb).1
      have hbe : b = H.length := by simp at hlt; omega
      subst hbe
      rw [get_new] at hb ⊢
      cases hb
      refine ⟨_, rfl, by simp, fun g k cp o h => ?_⟩
      cases h with
      | loop hT => exact .loop hT
  refine ⟨S.below, S.low, S.fz, fun b x h => by rw [← hl]; exact S.dom b x h, S.pos, fun b x ob hb hn h => ?_, fun b c x ob oc hb hn hc hn2 h1 h2 => ?_, fun b ob hb hn => ?_, S.marks⟩
  · obtain ⟨oc, h1, h2, _⟩ := back b ob hb hn
    exact S.sep b x oc h1 h2 h
  · obtain ⟨od, k1, k2, _⟩ := back b ob hb hn
    obtain ⟨oe, k3, k4, _⟩ := back c oc hc hn2
    exact S.inj b c x od oe k1 k2 k3 k4 h1 h2
  · obtain ⟨oc, h1, h2, h3⟩ := back b ob hb hn
    obtain ⟨x, o, k1, k2, k3⟩ := S.obj b oc h1 h2
    exact ⟨x, o, k1, k2, h3 _ _ _ _ k3⟩

theorem ACalls.reLoop {k : FuncId} {args : List AV} {Post : AV → Hp → Prop} {st : LoopState} {pend : Option Code} {f : FuncId} {T : Env} {n : Nat} {ps : Array Tmp} {assign body : Code} {D : Nat}
    (h : ACalls P k args (H ++ [.loop st pend f T n ps assign body D]) Post) (f' : FuncId) (D' : Nat) : ACalls P k args (H ++ [.loop st pend f' T n ps assign body D']) Post :=
  ⟨h.1, fun base w0 g w vs S hr => h.2 base w0 g w vs S.reLoop hr⟩

theorem Keeps.tail {H H2 : Hp} {o o' : AObj} {t : List Nat} (h : Keeps (H ++ [o]) H2 t) : Keeps H (H2.set H.length o') t := by
  obtain ⟨h1, h2⟩ := h
  refine ⟨?_, fun b hb hn => ?_⟩
  · simp at h1 ⊢; omega
  · rw [List.getElem?_set_ne (by omega), h2 b (by simp; omega) hn, List.getElem?_append_left hb]

theorem xRange_ok {run : XQ → Option XR} (hr : XSound P run) {k : FuncId} {gop : Operand} {ps : Array Tmp} {assign body : Code} {e : Exit} {T' : Env} {H' : Hp} {v : AV} {t : List Nat} (h : xRange run k n rd gop ps assign body T H = some (e, T', H', v, t)) :
    (∀ Q : Exit → Env → Hp → Prop, Q e T' H' → Awp P n rd (.rangeFunc gop ps assign body) T H Q) ∧ Keeps H H' t := by
  unfold xRange at h
  split at h
  · rename_i k2 cap hg
    split at h
    · rename_i hrd
      split at h
      · rename_i e1 T1 H2 v1 t2 hx
        split at h
        · rename_i st pend f3 T3 n3 ps3 as3 bd3 D3 hb
          have hx' := hr _ _ _ _ _ _ hx
          have hcall : ∀ Q : Exit → Env → Hp → Prop, rangeQ P n rd T H.length Q v1 H2 → ACalls P k2 ([.fn (.yield H.length) []] ++ cap) (H ++ [.loop .ready none k T n ps assign body 0]) (rangeQ P n rd T H.length Q) := by
            intro Q hq
            refine ACalls.mono (show ACalls P k2 ([.fn (.yield H.length) []] ++ cap) _ _ from hx'.1) ?_
            rintro a H3 ⟨_, rfl⟩
            exact hq
          have fin : ∀ Q : Exit → Env → Hp → Prop, ACalls P k2 ([.fn (.yield H.length) []] ++ cap) (H ++ [.loop .ready none k T n ps assign body 0]) (rangeQ P n rd T H.length Q) → Awp P n rd (.rangeFunc gop ps assign body) T H Q := by
            intro Q hcl
            cases rd with
            | none => exact Awp.range hg fun f D => hcl.reLoop f D
            | some b0 =>
              simp only at hrd
              split at hrd
              · rename_i hb0
                exact Awp.rangeIn hg hb0 fun f D => hcl.reLoop f D
              · cases hrd
          have hst : st ≠ .busy := by intro hst; subst hst; cases h
          cases pend with
          | none =>
            have h2 : some (Exit.normal, T, H2.set H.length .dead, AV.val undef, t2) = some (e, T', H', v, t) := by
              cases st <;> first | (cases h; done) | exact h
            cases h2
            exact ⟨fun Q hq => fin Q (hcall Q ⟨st, none, f3, T3, n3, ps3, as3, bd3, D3, hb, hst, hq⟩), hx'.2.tail⟩
          | some c =>
            have h2 : (match run (.code k n rd c T (H2.set H.length .dead)) with
              | some (e, T3, H3, v3, t3) => some (e, T3, H3, v3, t2 ++ t3)
              | none => none) = some (e, T', H', v, t) := by
              cases st <;> first | (cases h; done) | exact h
            split at h2
            · rename_i e4 T4 H4 v4 t4 hx4
              cases h2
              exact ⟨fun Q hq => fin Q (hcall Q ⟨st, some c, f3, T3, n3, ps3, as3, bd3, D3, hb, hst, (hr _ _ _ _ _ _ hx4).1 Q hq⟩), hx'.2.tail.trans (hr _ _ _ _ _ _ hx4).2⟩
            · cases h2
        · cases h
      · cases h
    · cases h
  · cases h

theorem thenQ_of {k : Env → Hp → Prop} {Q : Exit → Env → Hp → Prop} {e : Exit} (hne : e ≠ .normal) (h : Q e T H) : thenQ k Q e T H := by
  cases e <;> first | exact absurd rfl hne | exact h

theorem xRun_ok (hm : P.follows .mixedOrders = true) {ora : Ora} (ho : OraOk P ora) (muF : FuncId → Nat → Bool) : ∀ fuel m, m ≤ fuel → XSound P (fun q => xRun P ora muF m q)
  | 0, m, hle, q, e, T', H', v, t, h => by
    obtain rfl : m = 0 := by omega
    unfold xRun at h
    cases h
  | fuel + 1, m, hle, q, e, T', H', v, t, h => by
    rcases Nat.lt_or_ge m (fuel + 1) with hlt | hge
    · exact xRun_ok hm ho muF fuel m (by omega) q e T' H' v t h
    obtain rfl : m = fuel + 1 := by omega
    have ih := xRun_ok hm ho muF fuel fuel (Nat.le_refl _)
    cases q with
    | call fv args H =>
      unfold xRun at h
      simp only at h
      unfold XGood
      unfold ACallV
      split at h
      · exact xFun_ok ho ih h
      · exact xFun_ok ho ih h
      · exact xYield_ok ih h
      · cases h
    | code k n rd c T H =>
      cases c with
      | loop c =>
        refine ⟨fun Q hq => ?_, ?_⟩
        · refine Awp.loop (ι := Nat) (fun j T H => j ≤ fuel + 1 ∧ ∃ t, xRun P ora muF j (.code k n rd (.loop c) T H) = some (e, T', H', v, t)) id (fuel + 1) ⟨Nat.le_refl _, t, h⟩ ?_
          rintro j T H ⟨hj, t0, hx⟩
          cases j with
          | zero => unfold xRun at hx; cases hx
          | succ j =>
            unfold xRun at hx
            simp only at hx
            have ihj := xRun_ok hm ho muF fuel j (by omega)
            split at hx
            · rename_i T1 H1 z t1 hx1
              split at hx
              · rename_i e2 T2 H2 v2 t2 hx2
                cases hx
                exact (ihj _ _ _ _ _ _ hx1).1 _ (show thenQ _ _ .normal T1 H1 from ⟨j, ⟨by omega, t2, hx2⟩, Nat.lt_succ_self _⟩)
              · cases hx
            · rename_i hne
              exact (ihj _ _ _ _ _ _ hx).1 _ (thenQ_of (fun he => by subst he; exact hne _ _ _ _ hx) hq)
        · unfold xRun at h
          simp only at h
          split at h
          · rename_i T1 H1 z t1 hx1
            split at h
            · rename_i e2 T2 H2 v2 t2 hx2
              cases h
              exact (ih _ _ _ _ _ _ hx1).2.trans (ih _ _ _ _ _ _ hx2).2
            · cases h
          · exact (ih _ _ _ _ _ _ h).2
      | seq x y =>
        unfold xRun at h
        simp only at h
        split at h
        · rename_i T1 H1 z t1 hx1
          split at h
          · rename_i e2 T2 H2 v2 t2 hx2
            cases h
            exact ⟨fun Q hq => Awp.seq ((ih _ _ _ _ _ _ hx1).1 _ (show thenQ _ _ .normal T1 H1 from (ih _ _ _ _ _ _ hx2).1 Q hq)), (ih _ _ _ _ _ _ hx1).2.trans (ih _ _ _ _ _ _ hx2).2⟩
          · cases h
        · rename_i hne
          exact ⟨fun Q hq => Awp.seq ((ih _ _ _ _ _ _ h).1 _ (thenQ_of (fun he => by subst he; exact hne _ _ _ _ h) hq)), (ih _ _ _ _ _ _ h).2⟩
      | cond c x y =>
        unfold xRun at h
        simp only at h
        split at h
        · rename_i t' hc
          cases t' with
          | true => exact ⟨fun Q hq => condT hc ((ih _ _ _ _ _ _ h).1 Q hq), (ih _ _ _ _ _ _ h).2⟩
          | false => exact ⟨fun Q hq => condF hc ((ih _ _ _ _ _ _ h).1 Q hq), (ih _ _ _ _ _ _ h).2⟩
        · cases h
      | block id c =>
        unfold xRun at h
        simp only at h
        split at h
        · rename_i i T1 H1 z t1 hx1
          cases h
          refine ⟨fun Q hq => Awp.block ((ih _ _ _ _ _ _ hx1).1 _ ?_), (ih _ _ _ _ _ _ hx1).2⟩
          show (if i = id then Q .normal T' H' else Q (.exit i) T' H')
          split
          · rename_i he; rw [if_pos he] at hq; exact hq
          · rename_i he; rw [if_neg he] at hq; exact hq
        · rename_i hne
          refine ⟨fun Q hq => Awp.block ((ih _ _ _ _ _ _ h).1 _ ?_), (ih _ _ _ _ _ _ h).2⟩
          cases e with
          | exit i => exact absurd h (hne _ _ _ _ _)
          | _ => exact hq
      | region id ops d =>
        unfold xRun at h
        exact xReg_ok hm ih h
      | rangeFunc gop ps assign body =>
        unfold xRun at h
        exact xRange_ok ih h
      | skip => unfold xRun at h; cases h; exact ⟨fun Q hq => Awp.skip hq, Keeps.refl _ _⟩
      | ret => unfold xRun at h; cases h; exact ⟨fun Q hq => Awp.ret hq, Keeps.refl _ _⟩
      | exit id => unfold xRun at h; cases h; exact ⟨fun Q hq => Awp.exit hq, Keeps.refl _ _⟩
      | _ => unfold xRun at h; cases h

/-! ### a call that is told nothing, at any heap -/

theorem Sim.beyond (S : Sim base w0 g H w) (B : Below w.heap.size w w') : Sim base w0 g H w' := by
  refine ⟨S.below.trans (B.mono S.low), Nat.le_trans S.low B.size, fun b o v h => ?_, S.dom, fun b x h => ⟨(S.pos b x h).1, Nat.lt_of_lt_of_le (S.pos b x h).2 B.size⟩, S.sep, S.inj, fun b ob hb hn => ?_, fun r h => ?_⟩
  · have hc := S.fz b o v h
    have hlt : b < w.heap.size := by
      rcases Nat.lt_or_ge b w.heap.size with h | h
      · exact h
      · have : w.heap[b]? = none := Array.getElem?_eq_none h
        simp [World.cell?, this] at hc
    rw [B.cell hlt]
    exact hc
  · obtain ⟨x, o, h1, h2, h3⟩ := S.obj b ob hb hn
    exact ⟨x, o, h1, by rw [B.block x (S.pos b x h1).2]; exact h2, h3⟩
  · obtain ⟨h1, h2, h3⟩ := S.marks r h
    exact ⟨h1, Nat.lt_of_lt_of_le h2 B.size, by rw [B.block r h2]; exact h3⟩

theorem frame0 {f : FuncId} {v : Value} {H1 : Hp} (h : CallsTo P f [] [] (.val v) H1) (H : Hp) : CallsTo P f [] H (.val v) H := by
  refine ⟨h.1, fun base w0 g w vs S hr => ?_⟩
  have S0 : Sim w.heap.size w ⟨fun _ _ => none, fun _ => none, fun _ => 0, fun _ => 0, fun _ => False⟩ [] w :=
    ⟨Below.refl _ _, Nat.le_refl _, fun _ _ _ h => (by cases h), fun _ _ h => (by cases h), fun _ _ h => (by cases h), fun _ _ _ h => (by simp at h), fun _ _ _ _ _ h => (by simp at h), fun _ _ h => (by simp at h), fun _ h => h.elim⟩
  refine (h.2 w.heap.size w _ w vs S0 ⟨hr.size, fun i c v hc => (by simp at hc)⟩).mono fun e w' ⟨z, a, H', g', h1, ⟨h2, h3⟩, h4, h5, h6⟩ => ?_
  subst h2
  cases h6
  exact ⟨v, .val v, H, g, h1, ⟨rfl, rfl⟩, Gh.le.refl g, S.beyond h5.below, .val _⟩

/-- a closed call, by running it -/
def xVal : Option XR → Option Value
  | some (_, _, _, .val v, _) => some v
  | _ => none

theorem closed_call (hm : P.follows .mixedOrders = true) {ora : Ora} (ho : OraOk P ora) (muF : FuncId → Nat → Bool) (fuel : Nat) {f : FuncId} {v : Value} (h : xVal (xRun P ora muF fuel (.call (.fn (.func f) []) [] [])) = some v) (H : Hp) : CallsTo P f [] H (.val v) H := by
  unfold xVal at h
  split at h
  · rename_i e T1 H1 u t hx
    cases h
    exact frame0 (show CallsTo P f [] [] (.val v) H1 from (xRun_ok hm ho muF fuel fuel (Nat.le_refl _) _ _ _ _ _ _ hx).1) H
  · cases h

end Go.Proofs.Ytlhchnnfgppneaa.Ab
