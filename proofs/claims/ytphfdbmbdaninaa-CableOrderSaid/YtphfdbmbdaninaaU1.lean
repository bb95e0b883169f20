/- Cables: what coordination brings. -/
import Derived.Test.YtphfdbmbdaninaaWT
import Derived.Test.YtphfdbmbdaninaaWP
namespace Go.Proofs.Ytphfdbmbdaninaa.Ab
open Go Go.RowKit Go.Proofs
set_option linter.unusedSimpArgs false
set_option linter.unusedVariables false
attribute [local irreducible] Awp wpO thenQ blockQ bodyQ ACalls stepA

/-- a cable is coordinated -/
def Coo (l : List Nd) (m : Int) : Prop := ∀ k, k < l.length → ∀ i ∈ pth l k, ¬ cnd l m k i

theorem coG_zero {l : List Nd} {m : Int} : ∀ (f k : Nat), (coG l m f k).2.2 = 0 → ∀ j, k ≤ j → j < k + f → coF l m j = none
  | 0, k, _, j, h1, h2 => by omega
  | f + 1, k, h, j, h1, h2 => by
    cases hc : coF l m k with
    | some i => rw [coG, hc] at h; cases h
    | none =>
      rw [coG, hc] at h
      by_cases e : j = k
      · subst e; exact hc
      · exact coG_zero f (k + 1) h j (by omega) (by omega)

theorem coo_of {l : List Nd} {m : Int} (h : (coG l m l.length 0).2.2 = 0) : Coo l m := by
  intro k hk i hi hc
  have := coG_zero _ _ h k (Nat.zero_le _) (by omega)
  unfold coF at this
  rw [List.find?_eq_none] at this
  exact this i hi (decide_eq_true hc)

theorem coG_18 {l : List Nd} {m : Int} : ∀ (f k : Nat), (coG l m f k).2.2 = 0 ∨ (coG l m f k).2.2 = 18
  | 0, k => .inl rfl
  | f + 1, k => by
    cases hc : coF l m k with
    | some i => rw [coG, hc]; exact .inr rfl
    | none => rw [coG, hc]; exact coG_18 f (k + 1)

/-- a breaker that is not stuck -/
def free (l : List Nd) (st : List Int) (p : Nat) : Bool := decide (brk l p) && decide ((p : Int) ∉ st)
theorem free_iff {l : List Nd} {st : List Int} {p : Nat} : free l st p = true ↔ brk l p ∧ (p : Int) ∉ st := by simp [free]

theorem brk_zero {c : Cb} (hg : c.good) : ¬ brk c.l (0 : Nat) := by
  obtain ⟨h1, _, _, hn⟩ := hg.h
  obtain ⟨a, ha⟩ := nth (show 0 < c.l.length by omega)
  rw [brk_del ha]
  have := (hn 0 a ha).1
  unfold headOk at this
  omega

theorem fold_keep {l : List Nd} {st : List Int} : ∀ (v : List Nat) (b : Nat), b ≠ 0 → (∀ p ∈ v, brk l p → ¬ delN l p < delN l b) → v.foldl (opStep l st) b = b
  | [], b, _, _ => rfl
  | p :: v, b, hb, h => by
    have e : opStep l st b p = b := by
      unfold opStep
      rw [if_neg]
      rintro ⟨h1, _, h3⟩
      rcases h3 with h3 | h3
      · exact hb h3
      · exact h p (by simp) h1 h3
    show v.foldl (opStep l st) (opStep l st b p) = b
    rw [e]
    exact fold_keep v b hb fun q hq => h q (by simp [hq])

theorem fold_first {l : List Nd} {st : List Int} : ∀ (v : List Nat), (∀ p ∈ v, brk l p → p ≠ 0) → v.Pairwise (fun (a b : Nat) => brk l a → brk l b → ¬ delN l b < delN l a) → v.foldl (opStep l st) 0 = (v.find? (free l st)).getD 0
  | [], _, _ => rfl
  | p :: v, h0, hp => by
    obtain ⟨h1, h2⟩ := List.pairwise_cons.1 hp
    by_cases hf : free l st p = true
    · obtain ⟨k1, k2⟩ := free_iff.1 hf
      have e : opStep l st 0 p = p := by
        unfold opStep
        rw [if_pos ⟨k1, k2, .inl rfl⟩]
      show v.foldl (opStep l st) (opStep l st 0 p) = _
      rw [e, fold_keep v p (h0 p (by simp) k1) fun q hq hb => h1 q hq k1 hb]
      simp [hf]
    · have e : opStep l st 0 p = 0 := by
        unfold opStep
        rw [if_neg]
        rintro ⟨k1, k2, _⟩
        exact hf (free_iff.2 ⟨k1, k2⟩)
      show v.foldl (opStep l st) (opStep l st 0 p) = _
      rw [e, fold_first v (fun q hq => h0 q (by simp [hq])) h2]
      simp [hf]

/-- the first breaker that is not stuck opens -/
theorem open_first {c : Cb} (hg : c.good) {m : Int} (hm : 1 ≤ m) (hc : Coo c.l m) (st : List Int) {k : Nat} (hk : k < c.l.length) : opN c.l st k = ((pth c.l k).find? (free c.l st)).getD 0 := by
  refine fold_first _ (fun p hp hb e => by subst e; exact brk_zero hg hb) ?_
  refine List.Pairwise.imp_of_mem ?_ (pth_dec c.l k)
  intro a b ha hb hab h1 h2 h3
  have hba := pth_lin c.l k a b ha hb (by omega)
  have han := pth_le c.l k a ha
  exact hc a (by omega) b hba ⟨by omega, h1, h2, by omega⟩

theorem lost_one (l : List Nd) (st : List Int) (f : Nat) : lostL l st [f] = sub l (opN l st f) := by
  unfold lostL gone sub
  refine List.filter_congr fun i hi => ?_
  have hin : i < l.length := by simpa using hi
  have e : i ∈ [f].foldl (goneStep l st) [] ↔ opN l st f ∈ pth l i := by
    show i ∈ goneStep l st [] f ↔ _
    unfold goneStep
    rw [if_neg (by simp)]
    simp only [List.nil_append, List.mem_filter, List.not_mem_nil, not_false_eq_true, decide_true, and_true, mem_sub]
    exact ⟨fun h => h.2, fun h => ⟨hin, h⟩⟩
  by_cases h : opN l st f ∈ pth l i
  · rw [decide_eq_true h, decide_eq_true (e.2 h)]
  · rw [decide_eq_false h, decide_eq_false (fun k => h (e.1 k))]

/-- the breakers among some numbers -/
def heldN (l : List Nd) (v : List Int) : List Nat := (v.map fun x => x.toNat % l.length).filter fun k => decide (brk l k)
theorem heldN_take {l : List Nd} {v : List Int} {i : Nat} {x : Int} (h : v[i]? = some x) : heldN l (v.take (i + 1)) = heldN l (v.take i) ++ (if brk l ((x.toNat % l.length : Nat) : Int) then [x.toNat % l.length] else []) := by
  unfold heldN
  rw [List.take_add_one, h]
  simp only [Option.toList_some, List.map_append, List.filter_append, List.map_cons, List.map_nil]
  congr 1
  by_cases hb : brk l ((x.toNat % l.length : Nat) : Int)
  · rw [if_pos hb, List.filter_cons, if_pos (decide_eq_true hb)]; rfl
  · rw [if_neg hb, List.filter_cons, if_neg (by simpa using hb)]; rfl
theorem heldN_len (l : List Nd) (v : List Int) : (heldN l v).length ≤ v.length := by
  unfold heldN
  refine Nat.le_trans (List.length_filter_le _ _) ?_
  simp
theorem held_stuck {l : List Nd} {v : List Int} (h : v.length ≤ 16) : stuckE l ((heldN l v).map fun (n : Nat) => (n : Int)) = 0 := by
  have := heldN_len l v
  unfold stuckE
  rw [if_neg (by simp; omega), if_neg]
  rw [Bool.not_eq_true, List.any_eq_false]
  intro x hx
  obtain ⟨n, hn, rfl⟩ := List.mem_map.1 hx
  have := (List.mem_filter.1 hn).2
  simpa using this

theorem tmod_nat {x : Int} {n : Nat} (hx : 0 ≤ x) : x.tmod (n : Int) = ((x.toNat % n : Nat) : Int) := by
  rw [Int.tmod_eq_emod_of_nonneg hx]
  obtain ⟨k, rfl⟩ := Int.eq_ofNat_of_zero_le hx
  simp

/-- a row of one's own that never turns any more, at a slot -/
theorem Awp.frzOwn {P : Program} {n : Nat} {rd : Option Nat} {c : Code} {T : Env} {H : Hp} {Q : Exit → Env → Hp → Prop} {lo : Nat} {t : TypeId} {a : AV} {es : List (List AV)} (s : Nat) (hO : Own lo t H a es) (hs : T s = a)
    (h : Awp P n rd c (upd T s (.rsl es false)) (ownK H a) Q) : Awp P n rd c T H Q := by
  cases hO with
  | row hne hlo hb =>
    have := Awp.freeze1 s es.length hs (Nat.le_refl _) hb (P := P) (n := n) (rd := rd) (c := c) (Q := Q)
    rw [List.take_length] at this
    exact this h
  | nil =>
    unfold Awp at *
    intro base w0 g w a r S hTR hr
    refine h base w0 g w a r S ⟨hTR.size, fun s' => ?_⟩ hr
    show R g (if s' = s then _ else _) _
    by_cases e : s' = s
    · subst e
      rw [if_pos rfl]
      have := hTR.slot s'
      rw [hs] at this
      generalize a.tmps.getD s' undef = z at this
      cases this
      exact .rnil _
    · rw [if_neg e]; exact hTR.slot s'
  | fix =>
    unfold Awp at *
    intro base w0 g w a r S hTR hr
    refine h base w0 g w a r S ⟨hTR.size, fun s' => ?_⟩ hr
    show R g (if s' = s then _ else _) _
    by_cases e : s' = s
    · subst e
      rw [if_pos rfl]
      have := hTR.slot s'
      rw [hs] at this
      generalize a.tmps.getD s' undef = z at this
      cases this with
      | rsl vs hn hl hc hm hk hf hr => exact .rsl vs hn hl (fun h => by cases h) hm hk hf hr
      | rnil a => exact .rnil a
    · rw [if_neg e]; exact hTR.slot s'

end Go.Proofs.Ytphfdbmbdaninaa.Ab
