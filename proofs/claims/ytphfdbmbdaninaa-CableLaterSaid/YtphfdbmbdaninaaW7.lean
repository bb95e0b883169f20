/- Rows of one's own that grow. -/
import Derived.Test.YtphfdbmbdaninaaW5
namespace Go.Proofs.Ytphfdbmbdaninaa.Ab
open Go Go.RowKit Go.Proofs
set_option linter.unusedSimpArgs false
set_option linter.unusedVariables false
attribute [local irreducible] Awp wpO thenQ blockQ bodyQ ACalls stepA

/-- a row of one's own, or nothing yet -/
inductive Own (lo : Nat) (t : TypeId) (H : Hp) : AV → List (List AV) → Prop
  | nil : Own lo t H nilS []
  | fix {es : List (List AV)} : Own lo t H (.rsl es true) es
  | row {b : Nat} {es : List (List AV)} (hne : es ≠ []) (hlo : lo ≤ b) (hb : H[b]? = some (.cells es t)) : Own lo t H (.msl b 0 es.length) es

structure OwnR (lo : Nat) (t : TypeId) (k b : Nat) (H : Hp) (a : AV) (es : List (List AV)) : Prop where
  own : Own lo t H a es
  hk : ∀ e ∈ es, e.length = k
  hb : (es.length + 1) * b ≤ 140737488355328

/-- the heap without the row -/
def ownK (H : Hp) (a : AV) : Hp := match a with
  | .msl b _ _ => H.set b .dead
  | _ => H

theorem ownK_len (H : Hp) (a : AV) : (ownK H a).length = H.length := by
  unfold ownK; split <;> simp

section
variable {lo : Nat} {t : TypeId} {H H' : Hp} {a : AV} {es : List (List AV)}

theorem Own.app (h : Own lo t H a es) (X : Hp) : Own lo t (H ++ X) a es := by
  cases h with
  | nil => exact .nil
  | fix => exact .fix
  | row hne hlo hb => exact .row hne hlo ((held hb).2.1 X)
theorem Own.set (h : Own lo t H a es) {s : Nat} {ob c : AObj} (hs : H[s]? = some ob) (hne : ob ≠ .cells es t) : Own lo t (H.set s c) a es := by
  cases h with
  | nil => exact .nil
  | fix => exact .fix
  | row hn hlo hb =>
    refine .row hn hlo ?_
    rw [List.getElem?_set_ne]
    · exact hb
    · rintro rfl; rw [hs] at hb; exact hne (by simpa using hb)
theorem Own.setLow (h : Own lo t H a es) {s : Nat} (hs : s < lo) (c : AObj) : Own lo t (H.set s c) a es := by
  cases h with
  | nil => exact .nil
  | fix => exact .fix
  | row hn hlo hb => exact .row hn hlo (by rw [List.getElem?_set_ne (by omega)]; exact hb)
theorem ownK_low (h : Own lo t H a es) {s : Nat} (hs : s < lo) : (ownK H a)[s]? = H[s]? := by
  cases h with
  | nil => rfl
  | fix => rfl
  | row hn hlo hb => exact List.getElem?_set_ne (by omega)
theorem Own.low (h : Own lo t H a es) {lo' : Nat} (hl : lo' ≤ lo) : Own lo' t H a es := by
  cases h with
  | nil => exact .nil
  | fix => exact .fix
  | row hn hlo hb => exact .row hn (by omega) hb
theorem Own.get (h : Own lo t H a es) (hH : ∀ j ob, lo ≤ j → H[j]? = some ob → H'[j]? = some ob) : Own lo t H' a es := by
  cases h with
  | nil => exact .nil
  | fix => exact .fix
  | row hn hlo hb => exact .row hn hlo (hH _ _ hlo hb)
theorem Own.of (h : Own lo t H a es) (hG : Grow H H') : Own lo t H' a es := h.get fun _ _ _ h => hG.get h
theorem OwnR.of {k b : Nat} (h : OwnR lo t k b H a es) (hG : Grow H H') : OwnR lo t k b H' a es := ⟨h.own.of hG, h.hk, h.hb⟩
theorem OwnR.app {k b : Nat} (h : OwnR lo t k b H a es) (X : Hp) : OwnR lo t k b (H ++ X) a es := ⟨h.own.app X, h.hk, h.hb⟩

theorem Own.next (h : Own lo t H a es) (hl : lo ≤ H.length) (x : List AV) {n m : Nat} (hn : n = H.length) (hm : m = es.length + 1) : Own lo t (ownK H a ++ [.cells (es ++ [x]) t]) (.msl n 0 m) (es ++ [x]) := by
  subst hn; subst hm
  have : es.length + 1 = (es ++ [x]).length := by simp
  rw [this, ← ownK_len H a]
  exact .row (by simp) (by rw [ownK_len]; exact hl) (get_new _ _)

theorem Own.other (h : Own lo t H a es) {j : Nat} {ob : AObj} (hj : H[j]? = some ob) (hne : ob ≠ .cells es t) : (ownK H a)[j]? = some ob := by
  cases h with
  | nil => exact hj
  | fix => exact hj
  | row hn hlo hb =>
    show (H.set _ .dead)[j]? = _
    rw [List.getElem?_set_ne]
    · exact hj
    · rintro rfl; rw [hj] at hb; exact hne (by simpa using hb)

theorem Own.grow {H0 : Hp} (h : Own lo t H a es) (hl : H0.length ≤ lo) (hG : Grow H0 H) : Grow H0 (ownK H a) := by
  cases h with
  | nil => exact hG
  | fix => exact hG
  | row hn hlo hb => exact hG.set (by omega) _

/-- forgetting: the blocks behind -/
theorem ownK_app (h : Own lo t H a es) (X : Hp) : ownK (H ++ X) a = ownK H a ++ X := by
  cases h with
  | nil => rfl
  | fix => rfl
  | row hn hlo hb => exact List.set_append_left _ _ (List.getElem?_eq_some_iff.1 hb).1
end

section
variable {P : Program} {mu : Nat → Bool} {n : Nat} {d : Option Draw} {done : List (Option Tmp)} {rest : List Oper} {T : Env} {H : Hp} {K : Env → Hp → Prop} {ty : TypeId} {pos : String} {aft : Array Edge} {s : Tmp}

/-- an append to a row of one's own -/
theorem stpApp {x y : Operand} {t e : TypeId} {kk b lo : Nat} {a : AV} {es : List (List AV)} {xe : List AV} {ex : Bool} (hd : dstOk n (some s) = true) (hO : OwnR lo e kk b H a es) (hs : evA T x = a) (hx : evA T y = .rsl [xe] ex) (hc : xe.all AV.isCell = true) (hxl : xe.length = kk)
    (hap : ∀ s x H, appendA P t t s x H = appendB e kk b s x H)
    (ho : okD P mu d done.length ⟨some s, .call ⟨.builtin .append, #[x, y], #[t, t]⟩, ty, pos, aft, none⟩ T H (.msl H.length 0 (es.length + 1)) (ownK H a ++ [.cells (es ++ [xe]) e]))
    (k : wpO P mu n d (done ++ [some s]) rest (upd T s (.msl H.length 0 (es.length + 1))) (ownK H a ++ [.cells (es ++ [xe]) e]) K) :
    wpO P mu n d done (⟨some s, .call ⟨.builtin .append, #[x, y], #[t, t]⟩, ty, pos, aft, none⟩ :: rest) T H K := by
  refine stp0 hd rfl ?_ ho k
  simp only [stepA, builtinA, List.map_cons, List.map_nil]
  rw [hap, hs, hx]
  obtain ⟨hO, hk, hb⟩ := hO
  have hsrc : srcA kk (.rsl [xe] ex) H = some [xe] := by
    unfold srcA
    first | rfl | (simp [hxl]; done)
  unfold appendB
  rw [hsrc]
  simp only [List.length_singleton, Nat.one_ne_zero, if_false]
  cases hO with
  | nil =>
    simp only [List.length_nil, Nat.zero_add] at hb ⊢
    rw [if_pos hb]
    rfl
  | fix =>
    simp only []
    rw [if_pos ⟨by rw [List.all_eq_true]; intro e he; simpa using hk e he, hb⟩]
    rfl
  | row hne hlo hbk =>
    have hpos : 0 < es.length := by
      rcases Nat.eq_zero_or_pos es.length with h | h
      · exact absurd (List.eq_nil_of_length_eq_zero h) hne
      · exact h
    simp only [hbk]
    rw [if_pos ⟨by trivial, Nat.le_refl _, hpos, by rw [List.all_eq_true]; intro e he; simpa using hk e he, by simpa using hc, hb⟩, List.take_length]
    rfl
end

section
variable {P : Program} {T : Env} {fn : Func} {H0 H1 : Hp} {e : Exit} {a : AV} {es : List (List AV)} {t : TypeId}

theorem Vs.unfix {H : Hp} {ex : Bool} : Vs H0 (.rsl es ex) H (.rsl es false) H := by
  intro base w0 g0 g w x _ _ hg S hR
  refine ⟨g, hg, S, ?_⟩
  cases hR with
  | rsl vs hn hl hc hm hk hf hr => exact .rsl vs hn hl (fun h => by cases h) hm hk hf hr
  | rnil a => exact .rnil a
theorem Vs.unfix2 {H : Hp} {ex : Bool} {x : AV} : Vs H0 (.tup [.rsl es ex, x]) H (.tup [.rsl es false, x]) H := by
  intro base w0 g0 g w x' h1 h2 hg S hR
  cases hR with
  | tup hl hr =>
    refine ⟨g, hg, S, .tup hl fun i c v hc hv => ?_⟩
    match i with
    | 0 =>
      cases hc
      have := hr 0 _ v rfl hv
      cases this with
      | rsl vs hn hl hc hm hk hf hr => exact .rsl vs hn hl (fun h => by cases h) hm hk hf hr
      | rnil a => exact .rnil a
    | i + 1 => exact hr (i + 1) c v hc hv

theorem bodyQ_own (he : e = .normal ∨ e = .ret) (hr : resL P T H1 fn.results.toList = some [a]) (hG : Grow H0 H1) (hO : Own H0.length t H1 a es) (hp : Plain es) : bodyQ P fn H0 (fun v1 H1 => v1 = .rsl es false ∧ H1 = H0) e T H1 := by
  cases hO with
  | nil =>
    obtain ⟨X, rfl⟩ := hG.split
    exact bodyQ_mk he hr (Vs.nil0.trans (Vs.drop (Bel_plain hp _ _))) ⟨rfl, rfl⟩
  | fix =>
    obtain ⟨X, rfl⟩ := hG.split
    exact bodyQ_mk he hr (Vs.unfix.trans (Vs.drop (Bel_plain hp _ _))) ⟨rfl, rfl⟩
  | row hne hlo hb => exact bodyQ_frzG he hr hG hb hlo rfl hp
theorem bodyQ_own2 {x : Value} (he : e = .normal ∨ e = .ret) (hr : resL P T H1 fn.results.toList = some [a, .val x]) (hG : Grow H0 H1) (hO : Own H0.length t H1 a es) (hp : Plain es) : bodyQ P fn H0 (fun v1 H1 => v1 = .tup [.rsl es false, .val x] ∧ H1 = H0) e T H1 := by
  cases hO with
  | nil =>
    obtain ⟨X, rfl⟩ := hG.split
    refine bodyQ_mk he hr (Vs.nil2.trans (Vs.drop ?_)) ⟨rfl, rfl⟩
    rw [Bel_iff_tup]
    intro c hc
    simp at hc
    rcases hc with rfl | rfl
    · exact Bel_plain hp _ _
    · exact .val _
  | fix =>
    obtain ⟨X, rfl⟩ := hG.split
    refine bodyQ_mk he hr (Vs.unfix2.trans (Vs.drop ?_)) ⟨rfl, rfl⟩
    rw [Bel_iff_tup]
    intro c hc
    simp at hc
    rcases hc with rfl | rfl
    · exact Bel_plain hp _ _
    · exact .val _
  | row hne hlo hb => exact bodyQ_frz2G he hr hG hb hlo rfl hp
end

end Go.Proofs.Ytphfdbmbdaninaa.Ab
