/- A row that never turns any more, put behind a row of one's own. -/
import Derived.Test.YtdmgljlabigljaaTZ
namespace Go.Proofs.Ytdmgljlabigljaa.Ab
open Go Go.RowKit Go.Proofs
set_option linter.unusedSimpArgs false
set_option linter.unusedVariables false
attribute [local irreducible] Awp wpO thenQ blockQ bodyQ ACalls stepA

/-- what an append of some elements hands back -/
def appV (H : Hp) (a : AV) (es xs : List (List AV)) (e : TypeId) : AV × Hp := if xs = [] then (a, H) else (.msl H.length 0 (es.length + xs.length), ownK H a ++ [.cells (es ++ xs) e])
structure OwnX (lo : Nat) (t : TypeId) (k b : Nat) (H : Hp) (a : AV) (es xs : List (List AV)) : Prop where
  own : Own lo t H a es
  hk : ∀ e ∈ es, e.length = k
  hx : ∀ e ∈ xs, e.length = k
  hc : ∀ e ∈ xs, e.all AV.isCell = true
  hb : (es.length + xs.length) * b ≤ 140737488355328

theorem app_own {lo : Nat} {t : TypeId} {H : Hp} {a : AV} {es xs : List (List AV)} (h : Own lo t H a es) (hl : lo ≤ H.length) : Own lo t (appV H a es xs t).2 (appV H a es xs t).1 (es ++ xs) := by
  unfold appV
  by_cases hx : xs = []
  · rw [if_pos hx, hx, List.append_nil]; exact h
  · rw [if_neg hx]
    have e : es.length + xs.length = (es ++ xs).length := by simp
    rw [e]
    refine .row (by simp [hx]) hl ?_
    rw [show H.length = (ownK H a).length from (ownK_len H a).symm]
    exact get_new _ _
theorem app_grow {lo : Nat} {t : TypeId} {H H0 : Hp} {a : AV} {es xs : List (List AV)} (h : Own lo t H a es) (hl : H0.length ≤ lo) (hG : Grow H0 H) : Grow H0 (appV H a es xs t).2 := by
  unfold appV
  split
  · exact hG
  · exact (h.grow hl hG).app _

section
variable {P : Program} {mu : Nat → Bool} {n : Nat} {d : Option Draw} {done : List (Option Tmp)} {rest : List Oper} {T : Env} {H : Hp} {K : Env → Hp → Prop} {ty : TypeId} {pos : String} {aft : Array Edge} {s : Tmp}
theorem stpAll {x y : Operand} {t e : TypeId} {kk b lo : Nat} {a : AV} {es xs : List (List AV)} {ex : Bool} (hd : dstOk n (some s) = true) (hO : OwnX lo e kk b H a es xs) (hs : evA T x = a) (hx : evA T y = .rsl xs ex)
    (hap : ∀ s x H, appendA P t t s x H = appendB e kk b s x H)
    (ho : okD P mu d done.length ⟨some s, .call ⟨.builtin .append, #[x, y], #[t, t]⟩, ty, pos, aft, none⟩ T H (appV H a es xs e).1 (appV H a es xs e).2)
    (k : wpO P mu n d (done ++ [some s]) rest (upd T s (appV H a es xs e).1) (appV H a es xs e).2 K) :
    wpO P mu n d done (⟨some s, .call ⟨.builtin .append, #[x, y], #[t, t]⟩, ty, pos, aft, none⟩ :: rest) T H K := by
  refine stp0 hd rfl ?_ ho k
  simp only [stepA, builtinA, List.map_cons, List.map_nil]
  rw [hap, hs, hx]
  obtain ⟨hO, hk, hxk, hc, hb⟩ := hO
  have hsrc : srcA kk (.rsl xs ex) H = some xs := by
    unfold srcA
    simp only
    rw [if_pos (by rw [List.all_eq_true]; intro e he; simpa using hxk e he)]
  unfold appendB
  rw [hsrc]
  unfold appV
  by_cases h0 : xs = []
  · subst h0
    simp only [List.length_nil, if_true]
    cases hO <;> rfl
  · have hne : ¬ xs.length = 0 := fun h => h0 (List.eq_nil_of_length_eq_zero h)
    simp only [if_neg hne, if_neg h0]
    cases hO with
    | nil =>
      simp only [List.length_nil, Nat.zero_add] at hb ⊢
      rw [if_pos hb]
      rfl
    | fix =>
      simp only []
      rw [if_pos ⟨by rw [List.all_eq_true]; intro e he; simpa using hk e he, hb⟩]
      rfl
    | row hne hlo hbk =>
      have hpos : 0 < es.length := by
        rcases Nat.eq_zero_or_pos es.length with h | h
        · exact absurd (List.eq_nil_of_length_eq_zero h) hne
        · exact h
      simp only [hbk]
      rw [if_pos ⟨by trivial, Nat.le_refl _, hpos, by rw [List.all_eq_true]; intro e he; simpa using hk e he, by rw [List.all_eq_true]; exact hc, hb⟩, List.take_length]
      rfl
end

end Go.Proofs.Ytdmgljlabigljaa.Ab
