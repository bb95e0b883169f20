/- A row of one's own put behind a literal; two rows of one's own. -/
import Derived.Test.YtphfdbmbdaninaaW7
namespace Go.Proofs.Ytphfdbmbdaninaa.Ab
open Go Go.RowKit Go.Proofs
set_option linter.unusedSimpArgs false
set_option linter.unusedVariables false
attribute [local irreducible] Awp wpO thenQ blockQ bodyQ ACalls stepA

section
variable {lo : Nat} {t : TypeId} {H : Hp} {a a' : AV} {es : List (List AV)}
theorem Own.keep (h : Own lo t H a es) (hd : ∀ b n m, a' = .msl b 0 n → a ≠ .msl b 0 m) (ha' : ∀ b o n, a' = .msl b o n → o = 0) : Own lo t (ownK H a') a es := by
  cases h with
  | nil => exact .nil
  | fix => exact .fix
  | row hn hlo hb =>
    refine .row hn hlo ?_
    unfold ownK
    split
    · rename_i b o n
      have := ha' b o n rfl
      subst this
      rw [List.getElem?_set_ne]
      · exact hb
      · rintro rfl; exact hd _ n _ rfl rfl
    · exact hb
theorem Own.zero (h : Own lo t H a es) : ∀ b o n, a = .msl b o n → o = 0 := by
  intro b o n e
  cases h <;> cases e
  rfl
theorem Own.lt (h : Own lo t H a es) : ∀ b o n, a = .msl b o n → b < H.length := by
  intro b o n e
  cases h with
  | nil => cases e
  | fix => cases e
  | row hn hlo hb => cases e; exact (List.getElem?_eq_some_iff.1 hb).1
theorem Own.ge (h : Own lo t H a es) : ∀ b o n, a = .msl b o n → lo ≤ b := by
  intro b o n e
  cases h with
  | nil => cases e
  | fix => cases e
  | row hn hlo hb => cases e; exact hlo
end

/-- an append of a row of one's own to a literal -/
def preV (H : Hp) (es : List (List AV)) (xe : List AV) (e : TypeId) : AV × Hp := if es = [] then (.rsl [xe] true, H) else (.msl H.length 0 (1 + es.length), H ++ [.cells (xe :: es) e])

theorem pre_grow (H : Hp) (es : List (List AV)) (xe : List AV) (e : TypeId) : Grow H (preV H es xe e).2 := by
  unfold preV; split
  · exact Grow.refl _
  · exact (Grow.refl _).app _
theorem pre_own {lo : Nat} {H : Hp} {es : List (List AV)} {xe : List AV} {e : TypeId} (hl : lo ≤ H.length) : Own lo e (preV H es xe e).2 (preV H es xe e).1 (xe :: es) := by
  unfold preV; split
  · rename_i h; subst h; exact .fix
  · have : 1 + es.length = (xe :: es).length := by simp; omega
    rw [this]
    exact .row (by simp) hl (get_new _ _)
theorem pre_new {H : Hp} {es : List (List AV)} {xe : List AV} {e : TypeId} : ∀ b n, (preV H es xe e).1 = .msl b 0 n → b = H.length := by
  intro b n h
  unfold preV at h
  split at h <;> cases h
  rfl

section
variable {P : Program} {mu : Nat → Bool} {n : Nat} {d : Option Draw} {done : List (Option Tmp)} {rest : List Oper} {T : Env} {H : Hp} {K : Env → Hp → Prop} {ty : TypeId} {pos : String} {aft : Array Edge} {s : Tmp}
theorem stpPre {x y : Operand} {t e : TypeId} {kk b lo : Nat} {a : AV} {es : List (List AV)} {xe : List AV} (hd : dstOk n (some s) = true) (hO : OwnR lo e kk b H a es) (hx : evA T x = .rsl [xe] true) (hs : evA T y = a) (hxl : xe.length = kk)
    (hap : ∀ s x H, appendA P t t s x H = appendB e kk b s x H)
    (ho : okD P mu d done.length ⟨some s, .call ⟨.builtin .append, #[x, y], #[t, t]⟩, ty, pos, aft, none⟩ T H (preV H es xe e).1 (preV H es xe e).2)
    (k : wpO P mu n d (done ++ [some s]) rest (upd T s (preV H es xe e).1) (preV H es xe e).2 K) :
    wpO P mu n d done (⟨some s, .call ⟨.builtin .append, #[x, y], #[t, t]⟩, ty, pos, aft, none⟩ :: rest) T H K := by
  refine stp0 hd rfl ?_ ho k
  simp only [stepA, builtinA, List.map_cons, List.map_nil]
  rw [hap, hs, hx]
  obtain ⟨hO, hk, hb⟩ := hO
  have hall : es.all (fun e => e.length == kk) = true := by rw [List.all_eq_true]; intro e he; simpa using hk e he
  have hby : (1 + es.length) * b ≤ 140737488355328 := by rw [Nat.add_comm]; exact hb
  have hxall : ([xe] : List (List AV)).all (fun e => e.length == kk) = true := by simpa using hxl
  have fin : ∀ {x : AV}, srcA kk x H = some es → appendB e kk b (.rsl [xe] true) x H = some ((preV H es xe e).1, (preV H es xe e).2) := by
    intro x hsrc
    unfold appendB
    rw [hsrc]
    unfold preV
    by_cases h0 : es = []
    · subst h0; rfl
    · have hne : ¬ es.length = 0 := fun h => h0 (List.eq_nil_of_length_eq_zero h)
      simp only [if_neg hne, if_neg h0]
      rw [if_pos ⟨hxall, by simpa using hby⟩]
      rfl
  cases hO with
  | nil => exact fin rfl
  | fix => exact fin (by unfold srcA; simp only [hall, if_true])
  | row hne hlo hbk =>
    refine fin ?_
    unfold srcA
    simp only [hbk, hall]
    rw [if_pos ⟨by omega, by trivial⟩, List.drop_zero, List.take_length]
end

/-- a row of one's own that never turns any more, at a slot -/
theorem Awp.frzOwn {P : Program} {n : Nat} {rd : Option Nat} {c : Code} {T : Env} {H : Hp} {Q : Exit → Env → Hp → Prop} {lo : Nat} {t : TypeId} {a : AV} {es : List (List AV)} (s : Nat) (hO : Own lo t H a es) (hs : T s = a)
    (h : Awp P n rd c (upd T s (.rsl es false)) (ownK H a) Q) : Awp P n rd c T H Q := by
  cases hO with
  | row hne hlo hb =>
    have := Awp.freeze1 s es.length hs (Nat.le_refl _) hb (P := P) (n := n) (rd := rd) (c := c) (Q := Q)
    rw [List.take_length] at this
    exact this h
  | nil =>
    unfold Awp at *
    intro base w0 g w a r S hTR hr
    refine h base w0 g w a r S ⟨hTR.size, fun s' => ?_⟩ hr
    show R g (if s' = s then _ else _) _
    by_cases e : s' = s
    · subst e
      rw [if_pos rfl]
      have := hTR.slot s'
      rw [hs] at this
      generalize a.tmps.getD s' undef = z at this
      cases this
      exact .rnil _
    · rw [if_neg e]; exact hTR.slot s'
  | fix =>
    unfold Awp at *
    intro base w0 g w a r S hTR hr
    refine h base w0 g w a r S ⟨hTR.size, fun s' => ?_⟩ hr
    show R g (if s' = s then _ else _) _
    by_cases e : s' = s
    · subst e
      rw [if_pos rfl]
      have := hTR.slot s'
      rw [hs] at this
      generalize a.tmps.getD s' undef = z at this
      cases this with
      | rsl vs hn hl hc hm hk hf hr => exact .rsl vs hn hl (fun h => by cases h) hm hk hf hr
      | rnil a => exact .rnil a
    · rw [if_neg e]; exact hTR.slot s'

theorem tmod_nat {x : Int} {n : Nat} (hx : 0 ≤ x) : x.tmod (n : Int) = ((x.toNat % n : Nat) : Int) := by
  rw [Int.tmod_eq_emod_of_nonneg hx]
  obtain ⟨k, rfl⟩ := Int.eq_ofNat_of_zero_le hx
  simp

end Go.Proofs.Ytphfdbmbdaninaa.Ab
