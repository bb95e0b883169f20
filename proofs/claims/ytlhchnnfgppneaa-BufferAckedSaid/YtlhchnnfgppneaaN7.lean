/- Buffers: what Put comes to. -/
import Derived.Test.YtlhchnnfgppneaaN6
namespace Go.Proofs.Ytlhchnnfgppneaa.Ab
open Go Go.RowKit Go.Proofs
set_option linter.unusedSimpArgs false
set_option linter.unusedVariables false
attribute [local irreducible] Awp wpO thenQ blockQ bodyQ ACalls stepA

theorem findH_ins {x : Hd} (y : Int) : ∀ (a : Nat) (L : List Hd), x.r.id ∉ idsL L → findH (insA a x L) y = if y = x.r.id then some x else findH L y := by
  intro a
  induction a with
  | zero => intro L _; rfl
  | succ a ih =>
    intro L hn
    cases L with
    | nil => rfl
    | cons h l =>
      have hn' : x.r.id ≠ h.r.id ∧ x.r.id ∉ idsL l := by simpa [idsL] using hn
      show (if y = h.r.id then some h else findH (insA a x l) y) = if y = x.r.id then some x else (if y = h.r.id then some h else findH l y)
      rw [ih l hn'.2]
      by_cases k : y = h.r.id
      · rw [if_pos k, if_pos k, if_neg (by rw [k]; exact Ne.symm hn'.1)]
      · rw [if_neg k, if_neg k]
theorem findH_last {x : Hd} (y : Int) : ∀ (L : List Hd), (idsL (L ++ [x])).Nodup → findH L y = if y = x.r.id then none else findH (L ++ [x]) y := by
  intro L
  induction L with
  | nil =>
    intro _
    show none = if y = x.r.id then none else (if y = x.r.id then some x else none)
    split <;> rfl
  | cons h l ih =>
    intro hn
    have hn' := List.nodup_cons.1 hn
    have hne : x.r.id ≠ h.r.id := fun e => hn'.1 (by show h.r.id ∈ idsL (l ++ [x]); rw [← e]; simp [idsL])
    show (if y = h.r.id then some h else findH l y) = if y = x.r.id then none else (if y = h.r.id then some h else findH (l ++ [x]) y)
    rw [ih hn'.2]
    by_cases k : y = h.r.id
    · rw [if_pos k, if_pos k, if_neg (by rw [k]; exact Ne.symm hne)]
    · rw [if_neg k, if_neg k]

/-- nothing else has turned, the old order apart -/
structure FrO (F : Ft) (w : Rw) (H H' : Hp) : Prop where
  len : H.length ≤ H'.length
  old : ∀ j, j < H.length → j ≠ F.b → j ≠ F.r → j ≠ F.s → j ≠ F.t → (∀ m, w.ord ≠ .msl j 0 m) → H'[j]? = H[j]?
theorem Fr.o {F : Ft} {w : Rw} {H H' : Hp} (h : Fr F H H') : FrO F w H H' := ⟨h.len, fun j hj a b c d _ => h.old j hj a b c d⟩
theorem FrO.trans {F : Ft} {w : Rw} {H H' H'' : Hp} (h : FrO F w H H') (k : Fr F H' H'') : FrO F w H H'' :=
  ⟨Nat.le_trans h.len k.len, fun j hj a b c d e => (k.old j (Nat.lt_of_lt_of_le hj h.len) a b c d).trans (h.old j hj a b c d e)⟩
theorem FrO.hi {F : Ft} {w : Rw} {H D : Hp} (h : FrO F w H D) {s : Nat} (hs : H.length ≤ s) (c : AObj) : FrO F w H (D.set s c) :=
  ⟨by simpa using h.len, fun j hj a b d e f => by rw [List.getElem?_set_ne (by omega)]; exact h.old j hj a b d e f⟩
theorem FrO.app {F : Ft} {w : Rw} {H D : Hp} (h : FrO F w H D) (X : Hp) : FrO F w H (D ++ X) :=
  ⟨by have := h.len; simp; omega, fun j hj a b d e f => by rw [List.getElem?_append_left (by have := h.len; omega)]; exact h.old j hj a b d e f⟩
theorem OrdAt.zero {H : Hp} {a : AV} {ids : List Int} (h : OrdAt H a ids) : ∀ b o n, a = .msl b o n → o = 0 := by
  intro b o n e
  cases h with
  | nil => cases e
  | emp => cases e
  | row _ _ _ => cases e; rfl
/-- forgetting the order's row -/
theorem ownK_get {H : Hp} {a : AV} {j : Nat} (hn : ∀ o n, a ≠ .msl j o n) : (ownK H a)[j]? = H[j]? := by
  unfold ownK
  split
  · rename_i b o n
    rw [List.getElem?_set_ne]
    rintro rfl; exact hn _ _ rfl
  · rfl
theorem FrO.own {F : Ft} {w : Rw} {H D : Hp} {ids : List Int} (h : FrO F w H D) (hO : OrdAt H w.ord ids) : FrO F w H (ownK D w.ord) :=
  ⟨by rw [ownK_len]; exact h.len, fun j hj a b c d e => by
    rw [ownK_get fun o n k => e n (by rw [k, hO.zero _ _ _ k])]; exact h.old j hj a b c d e⟩
/-- the order's row is not one of the other blocks -/
theorem RepW.ordNe {H : Hp} {F : Ft} {w : Rw} {ids : List Int} (h : RepW H F w) (hO : OrdAt H w.ord ids) (j : Nat) (hj : j = F.b ∨ j = F.r ∨ j = F.s ∨ j = F.t) : ∀ o n, w.ord ≠ .msl j o n := by
  intro o n e
  have := hO.zero _ _ _ e
  subst this
  obtain ⟨v, hv, _⟩ := hO.blk e
  rcases hj with rfl | rfl | rfl | rfl
  · rw [h.hb] at hv; simp at hv
  · rw [h.hr] at hv; simp at hv
  · rw [h.hs] at hv; simp at hv
  · rw [h.ht] at hv; simp at hv
theorem RepW.own {H : Hp} {F : Ft} {w : Rw} {ids : List Int} (h : RepW H F w) (hO : OrdAt H w.ord ids) : RepW (ownK H w.ord) F w :=
  ⟨by rw [ownK_get (h.ordNe hO _ (.inl rfl))]; exact h.hb, by rw [ownK_get (h.ordNe hO _ (.inr (.inl rfl)))]; exact h.hr, by rw [ownK_get (h.ordNe hO _ (.inr (.inr (.inl rfl))))]; exact h.hs,
   by rw [ownK_get (h.ordNe hO _ (.inr (.inr (.inr rfl))))]; exact h.ht, h.rs, h.rt, h.st⟩

/-- what Put comes to -/
def PutPost (H : Hp) (F : Ft) (w : Rw) (S : Bf) (r : Item) (v1 : AV) (H1 : Hp) : Prop :=
  ∃ w', v1 = .tup [.rsl (ints (putR S r).2) false, iv (putE S r)] ∧ Rep H1 F w' (putR S r).1 ∧ FrO F w H H1 ∧ (w'.ord = w.ord ∨ ∀ j m, w'.ord = .msl j 0 m → H.length ≤ j)

theorem putNo {H : Hp} {F : Ft} {w : Rw} {S : Bf} {r : Item} (hR : Rep H F w S) {e : Int} (he : putE S r = e) (hne : e ≠ 0) {H1 : Hp} (hG : Grow H H1) {T : Env} {fn : Func} (hr : resL Try.prog T H1 fn.results.toList = some [nilS, iv e]) {x : Exit} (hx : x = .normal ∨ x = .ret) :
    bodyQ Try.prog fn H (PutPost H F w S r) x T H1 := by
  have hS : putR S r = (S, []) := by unfold putR; rw [if_neg (by rw [he]; exact hne)]
  refine bodyQ_mk (vs := [nilS, iv e]) (a := .tup [.rsl [] false, iv e]) (H' := H1) hx hr Vs.nil2 ⟨w, ?_, ?_, hG.fr.o, .inl rfl⟩
  · rw [hS, he]; rfl
  · rw [hS]; exact hR.grow hG

theorem putE_ok (S : Bf) (r : Item) : (¬ r.ok ∧ r.code = 2 ∧ putE S r = 2) ∨ (r.ok ∧ r.code = 0 ∧ ((r.id ∈ idsL S.L ∧ putE S r = 12) ∨ (r.id ∉ idsL S.L ∧ ((r.pk > S.cap ∧ putE S r = 14) ∨ (¬ r.pk > S.cap ∧ putE S r = 0))))) := by
  unfold putE Item.code
  by_cases h : r.ok
  · right
    refine ⟨h, if_pos h, ?_⟩
    rw [if_neg (fun n => n h)]
    by_cases k : r.id ∈ idsL S.L
    · exact .inl ⟨k, if_pos k⟩
    · right
      refine ⟨k, ?_⟩
      rw [if_neg k]
      by_cases m : r.pk > S.cap
      · exact .inl ⟨m, if_pos m⟩
      · exact .inr ⟨m, if_neg m⟩
  · left
    exact ⟨h, if_neg h, if_pos h⟩

end Go.Proofs.Ytlhchnnfgppneaa.Ab
