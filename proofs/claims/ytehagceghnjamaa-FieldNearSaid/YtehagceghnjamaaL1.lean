/- Fields: what an observation promises, in plain words; the next observation. -/
import Derived.Test.YtehagceghnjamaaL0
import Derived.Test.YtehagceghnjamaaG2
namespace Go.Proofs.Ytehagceghnjamaa.Ab
open Go Go.RowKit Go.Proofs
set_option linter.unusedVariables false

theorem promAt_nn {f : Fd} (hf : f.ok) {l : List Seen} (hc : Cons f l) (x : Spot) {e : Int} (h0 : 0 ≤ e) (i : Nat) : 0 ≤ promAt f l x e i := by
  have h1 := set_full hf hc (f.at i)
  have h2 := away_nonneg hf x (f.at i)
  unfold promAt
  omega

theorem prom_nn {f : Fd} (hf : f.ok) {l : List Seen} (hc : Cons f l) (x : Spot) {e : Int} (h0 : 0 ≤ e) : ∀ n, 0 ≤ prom f l x e n
  | 0 => by simp [prom]
  | n + 1 => by
    have := prom_nn hf hc x h0 n
    have := promAt_nn hf hc x h0 n
    unfold prom
    omega

/-- the next observation: the best among the first k spots -/
def nextI (f : Fd) (l : List Seen) (e : Int) : Nat → Spot × Int
  | 0 => (⟨0, 0⟩, -1)
  | k + 1 => if (nextI f l e k).2 < 0 ∨ prom f l (f.at k) e f.n < (nextI f l e k).2 then (f.at k, prom f l (f.at k) e f.n) else nextI f l e k

theorem nextI_spec {f : Fd} (hf : f.ok) {l : List Seen} (hc : Cons f l) {e : Int} (h0 : 0 ≤ e) : ∀ k, 0 < k → (∃ j, j < k ∧ nextI f l e k = (f.at j, prom f l (f.at j) e f.n)) ∧ ∀ j, j < k → (nextI f l e k).2 ≤ prom f l (f.at j) e f.n
  | k + 1, _ => by
    have hp := prom_nn hf hc (f.at k) h0 f.n
    by_cases hk : k = 0
    · subst hk
      have e1 : nextI f l e (0 + 1) = (f.at 0, prom f l (f.at 0) e f.n) := by simp [nextI]
      rw [e1]
      refine ⟨⟨0, by omega, rfl⟩, fun j hj => ?_⟩
      have : j = 0 := by omega
      subst this
      exact Int.le_refl _
    · obtain ⟨⟨j, hj, he⟩, hm⟩ := nextI_spec hf hc h0 k (by omega)
      by_cases hif : (nextI f l e k).2 < 0 ∨ prom f l (f.at k) e f.n < (nextI f l e k).2
      · have e1 : nextI f l e (k + 1) = (f.at k, prom f l (f.at k) e f.n) := by rw [nextI, if_pos hif]
        have hlt : prom f l (f.at k) e f.n < (nextI f l e k).2 := by
          rcases hif with h | h
          · rw [he] at h
            have := prom_nn hf hc (f.at j) h0 f.n
            simp only at h
            omega
          · exact h
        rw [e1]
        refine ⟨⟨k, by omega, rfl⟩, fun i hi => ?_⟩
        by_cases h : i = k
        · subst h; exact Int.le_refl _
        · have := hm i (by omega)
          simp only
          omega
      · have e1 : nextI f l e (k + 1) = nextI f l e k := by rw [nextI, if_neg hif]
        rw [e1]
        refine ⟨⟨j, by omega, he⟩, fun i hi => ?_⟩
        by_cases h : i = k
        · subst h; omega
        · exact hm i (by omega)

/-- the sum of the widths of the first n sets -/
def wid (f : Fd) (l : List Seen) : Nat → Int
  | 0 => 0
  | n + 1 => wid f l n + (setOf f l (f.at n)).hi - (setOf f l (f.at n)).lo

theorem setOf_app (f : Fd) (l : List Seen) (y : Seen) (x : Spot) : setOf f (l ++ [y]) x = stepS f x (setOf f l x) y := by
  unfold setOf; rw [List.foldl_append]; rfl

theorem wid_le {f : Fd} {l : List Seen} {x : Spot} {e b : Int} : ∀ n, wid f (l ++ [⟨x.m, x.c, b, b + e⟩]) n ≤ prom f l x e n
  | 0 => by simp [wid, prom]
  | n + 1 => by
    have ih := wid_le (f := f) (l := l) (x := x) (e := e) (b := b) n
    unfold wid prom
    rw [setOf_app]
    have hs := away_sym f (f.at n) x
    have : (Seen.spot ⟨x.m, x.c, b, b + e⟩) = x := rfl
    simp only [stepS, this, promAt]
    omega

theorem wid_in {f : Fd} (hf : f.ok) {l : List Seen} (hl : f.seenOk l) : ∀ n, n ≤ f.n → -(2147483648 * n) ≤ wid f l n ∧ wid f l n ≤ 2147483648 * n
  | 0, _ => by simp [wid]
  | n + 1, hn => by
    have ih := wid_in hf hl n (by omega)
    have := setOf_in hf (Fd.at_has hf (n := n) (by omega)) hl
    unfold wid
    omega

/-- one observation more that is possible -/
theorem one_more {f : Fd} {l : List Seen} (hcode : f.code l = 0) (hlen : l.length ≤ 12) (hc : Cons f l) {x : Spot} (hx : f.has x) {e b : Int} (h0 : 0 ≤ e) (h1 : e ≤ 65535) (hb : (setOf f l x).lo - e ≤ b) (hb2 : b ≤ (setOf f l x).hi) :
    f.all (l ++ [⟨x.m, x.c, b, b + e⟩]) = 0 := by
  obtain ⟨hf, _, hl⟩ := code0 hcode
  have hin := setOf_in hf hx hl
  have hfull := set_full hf hc x
  have hgood : f.good ⟨x.m, x.c, b, b + e⟩ := ⟨hx, by rw [Sp.bad_iff]; simp only [Seen.set]; omega⟩
  refine all_iff.2 ⟨?_, ?_, ?_⟩
  · unfold Fd.code
    rw [if_pos hf, if_neg (by simp; omega)]
    refine if_pos fun y hy => ?_
    rcases List.mem_append.1 hy with h | h
    · exact hl y h
    · rw [List.mem_singleton] at h; subst h; exact hgood
  · intro y hy
    rcases List.mem_append.1 hy with h | h
    · exact hc.1 y h
    · rw [List.mem_singleton] at h; subst h
      have h2 := (le_setHi (f := f) (l := l) (x := x)).1 (Int.le_refl _)
      have h3 := (setLo_le (f := f) (l := l) (x := x)).1 (Int.le_refl _)
      simp only
      omega
  · have hlo := (setLo_le (f := f) (l := l) (x := x)).1 (Int.le_refl _)
    have hhi := (le_setHi (f := f) (l := l) (x := x)).1 (Int.le_refl _)
    have sp : (Seen.spot ⟨x.m, x.c, b, b + e⟩) = x := rfl
    intro y hy z hz
    rcases List.mem_append.1 hy with h | h <;> rcases List.mem_append.1 hz with k | k
    · exact hc.2 y h z k
    · rw [List.mem_singleton] at k; subst k
      have := hlo.2 y h
      rw [sp, away_sym]
      simp only
      omega
    · rw [List.mem_singleton] at h; subst h
      have := hhi.2 z k
      rw [sp]
      simp only
      omega
    · rw [List.mem_singleton] at h k; subst h; subst k
      rw [sp, away_self]
      simp only
      omega

end Go.Proofs.Ytehagceghnjamaa.Ab
