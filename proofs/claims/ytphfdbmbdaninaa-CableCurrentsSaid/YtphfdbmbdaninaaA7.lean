/- One operation: what it does to abstract values (stepA), and that the machine does so. -/
import Derived.Test.YtphfdbmbdaninaaA7e
namespace Go.Proofs.Ytphfdbmbdaninaa.Ab
open Go Go.RowKit

variable {base : Nat} {w0 w w' : World} {g : Gh} {H : Hp} {P : Program}

def evA (T : Env) : Operand → AV
  | .tmp t => T t
  | .const v => .val v
  | .global x => .val (.pointer (some ⟨x, 0, none⟩))
  | .func f => .fn (.func f) []

theorem evA_rel {n : Nat} {T : Env} {a : Act} (h : TRel g n T a.tmps) (x : Operand) : R g (evA T x) (a.eval x) := by
  cases x with
  | tmp t => exact h.slot t
  | const v => exact .val v
  | global x => exact .val _
  | func f => exact .fn (by simp) (by simp) (by simp)

def intA (P : Program) (op : BinOp) (t : TypeId) (k : IntKind) (m : Int) (k' : IntKind) (n : Int) : Option AV :=
  match op with
  | .add => if k = k' then some (.val (.int k (k.wrap (m + n)))) else none
  | .sub => if k = k' then some (.val (.int k (k.wrap (m - n)))) else none
  | .mul => if k = k' then some (.val (.int k (k.wrap (m * n)))) else none
  | .quo => if k = k' ∧ n ≠ 0 then some (.val (.int k (k.wrap (m.tdiv n)))) else none
  | .rem => if k = k' ∧ n ≠ 0 then some (.val (.int k (m.tmod n))) else none
  | .eql => if k = k' then some (.val (.bool (m == n))) else none
  | .neq => if k = k' then some (.val (.bool (m != n))) else none
  | .lss => if k = k' then some (.val (.bool (decide (m < n)))) else none
  | .leq => if k = k' then some (.val (.bool (decide (m ≤ n)))) else none
  | .gtr => if k = k' then some (.val (.bool (decide (m > n)))) else none
  | .geq => if k = k' then some (.val (.bool (decide (m ≥ n)))) else none
  | _ => (pureRun P (binOp op t (.int k m) (.int k' n))).map .val

theorem intA_run {op : BinOp} {t : TypeId} {k k' : IntKind} {m n : Int} {a : AV} (h : intA P op t k m k' n = some a) : ∃ v, (binOp op t (.int k m) (.int k' n)).run P w = .ok v w ∧ a = .val v := by
  unfold intA at h
  split at h
  all_goals first
    | (simp only [Option.map_eq_some_iff] at h
       obtain ⟨v, hv, rfl⟩ := h
       exact ⟨v, pureRun_run hv w, rfl⟩)
    | (split at h
       · rename_i hk
         cases h
         first
          | (subst hk; exact ⟨_, by simp [binOp, Op.intArith, Op.intCmp], rfl⟩)
          | (obtain ⟨rfl, hn⟩ := hk; exact ⟨_, by simp [binOp, Op.intDiv, hn], rfl⟩)
       · cases h)

theorem eqGuard_int (op : BinOp) (t : TypeId) (x y : Operand) (k k' : IntKind) (m n : Int) : (eqGuard op t x y (.int k m) (.int k' n)).run P w = .ok () w := by
  unfold eqGuard; cases op <;> rfl

/-- has a value an address, so that it is no nil? -/
def AV.some? : AV → Bool
  | .rptr .. => true
  | .mptr .. => true
  | .rsl (_ :: _) _ => true
  | .msl .. => true
  | .mp .. => true
  | .fn .. => true
  | _ => false

def isNil : AV → Bool
  | .val (.pointer none) => true
  | .val (.slice none _ _) => true
  | .val (.map none) => true
  | .val .nilFunc => true
  | _ => false

/-- may values of this type be compared with nil so? -/
def nilKind (P : Program) (t : TypeId) (a : AV) : Bool :=
  match P.underlying t, a with
  | some (.pointer _), .rptr .. => true
  | some (.pointer _), .mptr .. => true
  | some (.slice _), .rsl (_ :: _) _ => true
  | some (.slice _), .msl .. => true
  | some (.map _ _), .mp .. => true
  | some (.func _ _ _), .fn .. => true
  | _, _ => false

def nilOf (P : Program) (t : TypeId) (a : AV) : Bool :=
  match P.underlying t, a with
  | some (.pointer _), .val (.pointer none) => true
  | some (.slice _), .val (.slice none _ _) => true
  | some (.map _ _), .val (.map none) => true
  | some (.func _ _ _), .val .nilFunc => true
  | _, _ => false

def aggEq (P : Program) (t : TypeId) (u v : Value) : Option Bool :=
  match u, v with
  | .agg xs, .agg ys => if P.eqGuardType P.depth t = false then eqB P Op.maxDepth t (.agg xs) (.agg ys) else none
  | _, _ => none

theorem aggEq_run {t : TypeId} {x y : Operand} {u v : Value} {r : Bool} (h : aggEq P t u v = some r) :
    (do eqGuard .eql t x y u v; binOp .eql t u v : Sem Value).run P w = .ok (.bool r) w ∧ (do eqGuard .neq t x y u v; binOp .neq t u v : Sem Value).run P w = .ok (.bool (!r)) w := by
  unfold aggEq at h
  split at h
  · rename_i xs ys
    split at h
    · rename_i hg
      have he := eqB_run (w := w) _ _ _ _ _ h
      have g1 : (eqGuard .eql t x y (.agg xs) (.agg ys)).run P w = .ok () w := by simp [eqGuard, hg]
      have g2 : (eqGuard .neq t x y (.agg xs) (.agg ys)).run P w = .ok () w := by simp [eqGuard, hg]
      constructor
      · rw [Sem.run_bind, g1]
        simp [binOp, Op.equal, he]
      · rw [Sem.run_bind, g2]
        simp [binOp, Op.equal, he]
    · cases h
  · cases h

def binA (P : Program) (op : BinOp) (t : TypeId) (x y : Operand) (a b : AV) : Option AV :=
  match a, b with
  | .val (.int k m), .val (.int k' n) => intA P op t k m k' n
  | a, b =>
    match op with
    | .eql => if (nilKind P t a && nilOf P t b) || (nilOf P t a && nilKind P t b) then some (.val (.bool false)) else
        match a.flat, b.flat with
        | some u, some v => match aggEq P t u v with
          | some r => some (.val (.bool (r)))
          | none => (pureRun P (do eqGuard .eql t x y u v; binOp .eql t u v)).map .val
        | _, _ => none
    | .neq => if (nilKind P t a && nilOf P t b) || (nilOf P t a && nilKind P t b) then some (.val (.bool true)) else
        match a.flat, b.flat with
        | some u, some v => match aggEq P t u v with
          | some r => some (.val (.bool (!r)))
          | none => (pureRun P (do eqGuard .neq t x y u v; binOp .neq t u v)).map .val
        | _, _ => none
    | op => match a.flat, b.flat with
        | some u, some v => (pureRun P (do eqGuard op t x y u v; binOp op t u v)).map .val
        | _, _ => none

theorem equal_nil {t : TypeId} {c d : AV} {p q : Value} (hc : R g c p) (hd : R g d q) (h1 : nilKind P t c = true) (h2 : nilOf P t d = true) :
    (Op.equal t p q).run P w = .ok false w ∧ (Op.equal t q p).run P w = .ok false w ∧
    (∀ op x y, (op = .eql ∨ op = .neq) → (eqGuard op t x y p q).run P w = .ok () w ∧ (eqGuard op t x y q p).run P w = .ok () w) ∧
    (binOp .eql t p q = (do pure (.bool (← Op.equal t p q))) ∧ binOp .eql t q p = (do pure (.bool (← Op.equal t q p)))) ∧
    (binOp .neq t p q = (do pure (.bool (!(← Op.equal t p q)))) ∧ binOp .neq t q p = (do pure (.bool (!(← Op.equal t q p))))) := by
  have e0 : ∀ p q, Op.equal t p q = Op.equalIn (9999 + 1) t p q := fun _ _ => rfl
  unfold nilKind at h1
  unfold nilOf at h2
  split at h1 <;> first
    | (cases h1; done)
    | (rename_i hu
       rw [hu] at h2
       split at h2 <;> first
         | (cases h2; done)
         | (rename_i he; cases he; done)
         | (rename_i he
            cases he
            first
              | (cases hd
                 cases hc <;> (refine ⟨?_, ?_, ?_, ⟨rfl, rfl⟩, ⟨rfl, rfl⟩⟩
                               · rw [e0, Op.equalIn]; simp only [Sem.run_bind, run_underlying hu, Result.andThen_ok]; try rfl
                               · rw [e0, Op.equalIn]; simp only [Sem.run_bind, run_underlying hu, Result.andThen_ok]; try rfl
                               · rintro op x y (rfl | rfl) <;> exact ⟨rfl, rfl⟩))))

theorem nil_run {t : TypeId} {a b : AV} {u v : Value} (ha : R g a u) (hb : R g b v) (h : ((nilKind P t a && nilOf P t b) || (nilOf P t a && nilKind P t b)) = true) (op : BinOp) (x y : Operand) (ho : op = .eql ∨ op = .neq) :
    (do eqGuard op t x y u v; binOp op t u v : Sem Value).run P w = .ok (.bool (op == .neq)) w := by
  simp only [Bool.or_eq_true, Bool.and_eq_true] at h
  rcases h with ⟨h1, h2⟩ | ⟨h1, h2⟩
  · obtain ⟨e1, e2, e3, ⟨e4, e5⟩, ⟨e6, e7⟩⟩ := equal_nil (w := w) ha hb h1 h2
    have := (e3 op x y ho).1
    rcases ho with rfl | rfl
    · rw [Sem.run_bind, this, e4]; simp only [Result.andThen_ok, Sem.run_bind, e1]; rfl
    · rw [Sem.run_bind, this, e6]; simp only [Result.andThen_ok, Sem.run_bind, e1]; rfl
  · obtain ⟨e1, e2, e3, ⟨e4, e5⟩, ⟨e6, e7⟩⟩ := equal_nil (w := w) hb ha h2 h1
    have := (e3 op x y ho).2
    rcases ho with rfl | rfl
    · rw [Sem.run_bind, this, e5]; simp only [Result.andThen_ok, Sem.run_bind, e2]; rfl
    · rw [Sem.run_bind, this, e7]; simp only [Result.andThen_ok, Sem.run_bind, e2]; rfl

theorem binA_run {op : BinOp} {t : TypeId} {x y : Operand} {a b r : AV} {u v : Value} (h : binA P op t x y a b = some r) (ha : R g a u) (hb : R g b v) :
    ∃ z, (do eqGuard op t x y u v; binOp op t u v : Sem Value).run P w = .ok z w ∧ r = .val z := by
  have flats : ∀ (op : BinOp), (match a.flat, b.flat with
        | some u, some v => (pureRun P (do eqGuard op t x y u v; binOp op t u v)).map AV.val
        | _, _ => none) = some r → ∃ z, (do eqGuard op t x y u v; binOp op t u v : Sem Value).run P w = .ok z w ∧ r = .val z := by
    intro op h
    split at h
    · rename_i u' v' hu hv
      simp only [Option.map_eq_some_iff] at h
      obtain ⟨z, hz, rfl⟩ := h
      have e1 := ha.flat u' hu
      have e2 := hb.flat v' hv
      subst e1; subst e2
      exact ⟨z, pureRun_run hz w, rfl⟩
    · cases h
  unfold binA at h
  split at h
  · cases ha; cases hb
    obtain ⟨z, hz, rfl⟩ := intA_run (w := w) h
    refine ⟨z, ?_, rfl⟩
    rw [Sem.run_bind, eqGuard_int]
    exact hz
  · split at h
    · split at h
      · rename_i hn
        cases h
        exact ⟨_, nil_run ha hb hn .eql x y (.inl rfl), rfl⟩
      · split at h
        · rename_i u' v' hu hv
          split at h
          · rename_i q hq
            cases h
            have e1 := ha.flat u' hu
            have e2 := hb.flat v' hv
            subst e1; subst e2
            exact ⟨_, (aggEq_run hq).1, rfl⟩
          · exact flats .eql (by rw [hu, hv]; exact h)
        · cases h
    · split at h
      · rename_i hn
        cases h
        exact ⟨_, nil_run ha hb hn .neq x y (.inr rfl), rfl⟩
      · split at h
        · rename_i u' v' hu hv
          split at h
          · rename_i q hq
            cases h
            have e1 := ha.flat u' hu
            have e2 := hb.flat v' hv
            subst e1; subst e2
            exact ⟨_, (aggEq_run hq).2, rfl⟩
          · exact flats .neq (by rw [hu, hv]; exact h)
        · cases h
    · exact flats _ h

def unA (P : Program) (op : UnOp) (a : AV) : Option AV :=
  match op, a with
  | .neg, .val (.int k n) => some (.val (.int k (k.wrap (0 - n))))
  | .not, .val (.bool b) => some (.val (.bool !b))
  | op, a => match a.flat with
    | some v => (pureRun P (Op.unary op v)).map .val
    | none => none

theorem unA_run {op : UnOp} {a r : AV} {u : Value} (h : unA P op a = some r) (ha : R g a u) : ∃ z, (Op.unary op u).run P w = .ok z w ∧ r = .val z := by
  unfold unA at h
  split at h
  · cases ha; cases h; exact ⟨_, rfl, rfl⟩
  · cases ha; cases h; exact ⟨_, rfl, rfl⟩
  · split at h
    · rename_i v hv
      simp only [Option.map_eq_some_iff] at h
      obtain ⟨z, hz, rfl⟩ := h
      have e1 := ha.flat v hv
      subst e1
      exact ⟨z, pureRun_run hz w, rfl⟩
    · cases h

def convA (P : Program) (src dst : TypeId) (a : AV) : Option AV :=
  match P.underlying src, P.underlying dst, a with
  | some (.int _), some (.int k), .val (.int _ n) => some (.val (.int k (k.wrap n)))
  | _, _, a => match a.flat with
    | some v => (pureRun P (convert src dst v)).map .val
    | none => none

theorem convA_run {src dst : TypeId} {a r : AV} {u : Value} (h : convA P src dst a = some r) (ha : R g a u) : ∃ z, (convert src dst u).run P w = .ok z w ∧ r = .val z := by
  unfold convA at h
  split at h
  · rename_i k k' n h1 h2
    cases ha; cases h
    exact ⟨_, by simp [convert, run_underlying h1, run_underlying h2, Conv.intToInt], rfl⟩
  · split at h
    · rename_i v hv
      simp only [Option.map_eq_some_iff] at h
      obtain ⟨z, hz, rfl⟩ := h
      have e1 := ha.flat v hv
      subst e1
      exact ⟨z, pureRun_run hz w, rfl⟩
    · cases h

/-- max, min of ints -/
def maxF (mx : Bool) (k : IntKind) (x : Int) : List AV → Option AV
  | [] => some (.val (.int k x))
  | .val (.int _ y) :: rest => maxF mx k (if mx then (if y > x then y else x) else (if y < x then y else x)) rest
  | _ => none

def maxA (mx : Bool) : List AV → Option AV
  | .val (.int k x) :: rest => maxF mx k x rest
  | _ => none

theorem maxF_run (mx : Bool) (k : IntKind) : ∀ (as : List AV) (us : List Value) (x : Int) (r : AV), maxF mx k x as = some r → as.length = us.length → (∀ (i : Nat) (a : AV) (u : Value), as[i]? = some a → us[i]? = some u → R g a u) →
    ∃ z, (us.foldlM (if mx then Builtin.max2 else Builtin.min2) (.int k x)).run P w = .ok z w ∧ r = .val z
  | [], us, x, r, h, hl, hr => by
    cases us with
    | nil => simp only [maxF, Option.some.injEq] at h; exact ⟨_, rfl, h.symm⟩
    | cons u us => simp at hl
  | a :: rest, us, x, r, h, hl, hr => by
    cases us with
    | nil => simp at hl
    | cons u us =>
      unfold maxF at h
      split at h
      · rename_i e; cases e
      · rename_i k' y rest' e
        cases e
        have h0 := hr 0 _ u rfl rfl
        cases h0
        obtain ⟨z, hz, rfl⟩ := maxF_run mx k rest us _ r h (by simpa using hl) (fun i a u ha hu => hr (i + 1) a u (by simpa using ha) (by simpa using hu))
        refine ⟨z, ?_, rfl⟩
        rw [← hz, List.foldlM_cons]
        cases mx <;> rfl
      · cases h

theorem maxA_run (mx : Bool) (as : List AV) (us : List Value) (r : AV) (aT : Array TypeId) (ty : TypeId) (h : maxA mx as = some r) (hl : as.length = us.length) (hr : ∀ (i : Nat) (a : AV) (u : Value), as[i]? = some a → us[i]? = some u → R g a u) :
    ∃ z, (if mx then Builtin.max_ aT ty us.toArray else Builtin.min_ aT ty us.toArray).run P w = .ok z w ∧ r = .val z := by
  unfold maxA at h
  split at h
  · rename_i k x rest
    cases us with
    | nil => simp at hl
    | cons u us =>
      have h0 := hr 0 _ u rfl rfl
      cases h0
      obtain ⟨z, hz, rfl⟩ := maxF_run (P := P) (w := w) mx k rest us x r h (by simpa using hl) (fun i a u ha hu => hr (i + 1) a u (by simpa using ha) (by simpa using hu))
      refine ⟨z, ?_, rfl⟩
      rw [← hz]
      cases mx <;> rfl
  · cases h

end Go.Proofs.Ytphfdbmbdaninaa.Ab
