/- Cables: what is granted, plain. -/
import Derived.Test.YtphfdbmbdaninaaUH
import Derived.Test.YtphfdbmbdaninaaUK
namespace Go.Proofs.Ytphfdbmbdaninaa.Ab
open Go Go.RowKit Go.Proofs
set_option linter.unusedSimpArgs false
set_option linter.unusedVariables false
attribute [local irreducible] Awp wpO thenQ blockQ bodyQ ACalls stepA

/-- what a segment could still carry -/
def room (l : List Nd) (g : List Int) (i : Nat) : Int := limA l i - sumN (gA g) (sub l i)
def getN (l : List Nd) (g : List Int) (q : Int) (p : List Nat) : Int := p.foldl (fun n i => min n (room l g i)) q
def grant (l : List Nd) (req g : List Int) (k : Nat) : List Int := g.set k (getN l g (gA req k) (pth l k))
def shrG (l : List Nd) (req : List Int) (o : List Nat) : List Int := o.foldl (grant l req) (List.replicate l.length 0)
theorem shrG_next {l : List Nd} {req : List Int} {o : List Nat} {j k : Nat} (h : o[j]? = some k) : shrG l req (o.take (j + 1)) = grant l req (shrG l req (o.take j)) k := by
  unfold shrG
  rw [List.take_add_one, h]
  simp
theorem getN_next {l : List Nd} {g : List Int} {q : Int} {p : List Nat} {j k : Nat} (h : p[j]? = some k) : getN l g q (p.take (j + 1)) = min (getN l g q (p.take j)) (room l g k) := by
  unfold getN
  rw [List.take_add_one, h]
  simp
theorem getN_q {l : List Nd} {g : List Int} : ∀ {p : List Nat} {q : Int}, getN l g q p ≤ q
  | [], q => Int.le_refl _
  | x :: p, q => Int.le_trans (getN_q (p := p)) (Int.min_le_left ..)
theorem getN_le {l : List Nd} {g : List Int} : ∀ {p : List Nat} {q : Int} {i : Nat}, i ∈ p → getN l g q p ≤ room l g i
  | x :: p, q, i, h => by
    rcases List.mem_cons.1 h with rfl | h
    · exact Int.le_trans (getN_q (p := p)) (Int.min_le_right ..)
    · exact getN_le (p := p) h
theorem getN_ge {l : List Nd} {g : List Int} {b : Int} : ∀ {p : List Nat} {q : Int}, b ≤ q → (∀ i ∈ p, b ≤ room l g i) → b ≤ getN l g q p
  | [], q, h, _ => h
  | x :: p, q, h, hp => getN_ge (p := p) (by have := hp x (by simp); show b ≤ min q (room l g x); omega) fun i hi => hp i (by simp [hi])
theorem getN_eq {l : List Nd} {g : List Int} : ∀ {p : List Nat} {q : Int}, getN l g q p = q ∨ ∃ i ∈ p, getN l g q p = room l g i
  | [], q => .inl rfl
  | x :: p, q => by
    have ih := getN_eq (l := l) (g := g) (p := p) (q := min q (room l g x))
    have e : getN l g q (x :: p) = getN l g (min q (room l g x)) p := rfl
    rw [e]
    rcases ih with h | ⟨i, hi, h⟩
    · rw [h]
      by_cases k : q ≤ room l g x
      · exact .inl (Int.min_eq_left k)
      · exact .inr ⟨x, by simp, Int.min_eq_right (by omega)⟩
    · exact .inr ⟨i, by simp [hi], h⟩

theorem gA_set {g : List Int} {k : Nat} {v : Int} (hk : k < g.length) (i : Nat) : gA (g.set k v) i = if i = k then v else gA g i := by
  unfold gA
  rw [List.getD_eq_getElem?_getD, List.getElem?_set]
  by_cases e : k = i
  · subst e; simp [hk]
  · rw [if_neg e, if_neg (Ne.symm e), List.getD_eq_getElem?_getD]
theorem gA_out {g : List Int} {k : Nat} (hk : g.length ≤ k) : gA g k = 0 := by simp [gA, hk]
theorem gA_zero (n i : Nat) : gA (List.replicate n 0) i = 0 := by
  unfold gA
  rw [List.getD_eq_getElem?_getD, List.getElem?_replicate]
  split <;> rfl
theorem sumN_cons1 (f : Nat → Int) (x : Nat) (v : List Nat) : sumN f (x :: v) = f x + sumN f v := by simp [sumN]
theorem sumN_set {g : List Int} {k : Nat} {v : Int} (hk : k < g.length) (hz : gA g k = 0) : ∀ (s : List Nat), s.Nodup → sumN (gA (g.set k v)) s = sumN (gA g) s + if k ∈ s then v else 0
  | [], _ => by simp [sumN_nil]
  | x :: s, hs => by
    have hx := (List.nodup_cons.1 hs)
    rw [sumN_cons1, sumN_cons1, sumN_set hk hz s hx.2, gA_set hk]
    by_cases e : x = k
    · subst e
      rw [if_pos rfl, if_neg hx.1, if_pos (by simp), hz]; omega
    · rw [if_neg e]
      by_cases m : k ∈ s
      · rw [if_pos m, if_pos (by simp [m])]; omega
      · rw [if_neg m, if_neg (by simp [m, Ne.symm e])]; omega
theorem sub_nodup (l : List Nd) (i : Nat) : (sub l i).Nodup := (sub_pair l i).imp (fun h => by omega)
theorem room_set {l : List Nd} {g : List Int} {k : Nat} {v : Int} (hlen : g.length = l.length) (hk : k < l.length) (hz : gA g k = 0) (i : Nat) : room l (g.set k v) i = room l g i - if i ∈ pth l k then v else 0 := by
  unfold room
  rw [sumN_set (by omega) hz _ (sub_nodup l i)]
  have : k ∈ sub l i ↔ i ∈ pth l k := by rw [mem_sub]; exact ⟨fun h => h.2, fun h => ⟨hk, h⟩⟩
  by_cases m : i ∈ pth l k
  · rw [if_pos m, if_pos (this.2 m)]; omega
  · rw [if_neg m, if_neg (fun h => m (this.1 h))]; omega
theorem sumN_zero {f : Nat → Int} (h : ∀ k, f k = 0) : ∀ s, sumN f s = 0
  | [] => rfl
  | x :: s => by rw [sumN_cons1, h, sumN_zero h s]; rfl
theorem room_zero (l : List Nd) (i : Nat) : room l (List.replicate l.length 0) i = limA l i := by
  unfold room
  rw [sumN_zero (gA_zero _)]; omega
theorem limA_in {c : Cb} (hg : c.good) (i : Nat) : 0 ≤ limA c.l i ∧ limA c.l i ≤ 3932160 := by
  unfold limA
  cases h : c.l[i]? with
  | none => simp
  | some a => exact (hg.h.2.2.2 i a h).2.2.2.1

/-- what is so after the nodes o -/
structure Gd (l : List Nd) (req : List Int) (o : List Nat) (g : List Int) : Prop where
  len : g.length = l.length
  zero : ∀ k, k ∉ o → gA g k = 0
  nn : ∀ x ∈ g, 0 ≤ x ∧ x ≤ 65536
  room : ∀ i, i < l.length → 0 ≤ room l g i
  le : ∀ k, gA g k ≤ gA req k
  full : ∀ k ∈ o, k < l.length → gA g k = gA req k ∨ ∃ i ∈ pth l k, Ab.room l g i = 0

theorem Gd.start {c : Cb} (hg : c.good) {req : List Int} (hq : ∀ x ∈ req, 0 ≤ x ∧ x ≤ 65536) : Gd c.l req [] (shrG c.l req []) where
  len := by simp [shrG]
  zero k _ := gA_zero _ _
  nn x hx := by
    have := (List.mem_replicate.1 hx).2
    omega
  room i hi := by
    show 0 ≤ Ab.room c.l (List.replicate c.l.length 0) i
    rw [room_zero]; exact (limA_in hg i).1
  le k := by
    show gA (List.replicate c.l.length 0) k ≤ _
    rw [gA_zero]; exact (gA_in hq k).1
  full k hk _ := by simp at hk
theorem Gd.next {l : List Nd} {req : List Int} {o : List Nat} {g : List Int} (h : Gd l req o g) (hq : ∀ x ∈ req, 0 ≤ x ∧ x ≤ 65536) {k : Nat} (hk : k ∉ o) (hkl : k < l.length) : Gd l req (o ++ [k]) (grant l req g k) := by
  have hz := h.zero k hk
  have hkg : k < g.length := by rw [h.len]; exact hkl
  have hpl : ∀ i ∈ pth l k, i < l.length := fun i hi => by have := pth_le l k i hi; omega
  have h0 : 0 ≤ getN l g (gA req k) (pth l k) := getN_ge (gA_in hq k).1 fun i hi => h.room i (hpl i hi)
  have hle : getN l g (gA req k) (pth l k) ≤ gA req k := getN_q
  have hq2 := (gA_in hq k).2
  have hr : ∀ i, Ab.room l (grant l req g k) i = Ab.room l g i - if i ∈ pth l k then getN l g (gA req k) (pth l k) else 0 := fun i => room_set h.len hkl hz i
  have hgA : ∀ i, gA (grant l req g k) i = if i = k then getN l g (gA req k) (pth l k) else gA g i := gA_set hkg
  refine ⟨by simp [grant, h.len], fun j hj => ?_, fun x hx => ?_, fun i hi => ?_, fun j => ?_, fun j hj hjl => ?_⟩
  · rw [hgA, if_neg (fun e => hj (by simp [e]))]
    exact h.zero j (fun m => hj (by simp [m]))
  · rcases List.mem_or_eq_of_mem_set hx with m | rfl
    · exact h.nn x m
    · omega
  · rw [hr]
    have := h.room i hi
    split
    · rename_i m
      have := getN_le (l := l) (g := g) (q := gA req k) m
      omega
    · omega
  · rw [hgA]
    split
    · rename_i e; subst e; exact hle
    · exact h.le j
  · rw [hgA]
    have old : ∀ i ∈ pth l j, Ab.room l g i = 0 → i < l.length → Ab.room l (grant l req g k) i = 0 := by
      intro i hi hz2 hil
      rw [hr]
      split
      · rename_i m
        have := getN_le (l := l) (g := g) (q := gA req k) m
        omega
      · omega
    by_cases e : j = k
    · subst e
      rw [if_pos rfl]
      rcases getN_eq (l := l) (g := g) (p := pth l j) (q := gA req j) with h1 | ⟨i, hi, h1⟩
      · exact .inl h1
      · exact .inr ⟨i, hi, by rw [hr, if_pos hi]; omega⟩
    · rw [if_neg e]
      have hjo : j ∈ o := by
        rcases List.mem_append.1 hj with m | m
        · exact m
        · simp at m; exact absurd m e
      rcases h.full j hjo hjl with h1 | ⟨i, hi, h1⟩
      · exact .inl h1
      · exact .inr ⟨i, hi, old i hi h1 (by have := pth_le l j i hi; omega)⟩
theorem Gd.all {c : Cb} (hg : c.good) {req : List Int} (hq : ∀ x ∈ req, 0 ≤ x ∧ x ≤ 65536) (r : List Int) : ∀ j, j ≤ c.l.length → Gd c.l req ((ordL r c.l.length).take j) (shrG c.l req ((ordL r c.l.length).take j))
  | 0, _ => by simpa using Gd.start hg hq
  | j + 1, hj => by
    have hp := ordL_perm r c.l.length
    have hnd : (ordL r c.l.length).Nodup := hp.nodup_iff.2 List.nodup_range
    have hl : (ordL r c.l.length).length = c.l.length := by rw [hp.length_eq]; simp
    obtain ⟨k, hk⟩ := nth (l := ordL r c.l.length) (i := j) (by omega)
    have hkl : k < c.l.length := by simpa using hp.mem_iff.1 (List.mem_of_getElem? hk)
    rw [shrG_next hk, List.take_add_one, hk]
    exact (Gd.all hg hq r j (by omega)).next hq (nodup_take hnd hk) hkl

theorem room_in {c : Cb} (hg : c.good) {g : List Int} (hn : ∀ x ∈ g, 0 ≤ x ∧ x ≤ 65536) (i : Nat) : room c.l g i ≤ 3932160 := by
  have h1 := (limA_in hg i).2
  have h2 := (sumN_in (f := gA g) (B := 65536) (by omega) (sub c.l i) fun k _ => gA_in hn k).1
  unfold room
  omega

/-- what is handed back -/
def shrE (c : Cb) (req r : List Int) : Int := if c.code ≠ 0 then c.code else if r.length ≠ c.l.length then 17 else ampE c.l req
def shrV (c : Cb) (req r : List Int) : List Int := if shrE c req r = 0 then shrG c.l req (ordL r c.l.length) else []

end Go.Proofs.Ytphfdbmbdaninaa.Ab
