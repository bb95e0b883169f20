/- Cables: what is lost after several faults. -/
import Derived.Test.YtphfdbmbdaninaaU1
namespace Go.Proofs.Ytphfdbmbdaninaa.Ab
open Go Go.RowKit Go.Proofs
set_option linter.unusedSimpArgs false
set_option linter.unusedVariables false
attribute [local irreducible] Awp wpO thenQ blockQ bodyQ ACalls stepA

theorem sub_trans {l : List Nd} {a b i : Nat} (h : a ∈ pth l b) (hi : i ∈ sub l b) : i ∈ sub l a := by
  obtain ⟨h1, h2⟩ := mem_sub.1 hi
  exact mem_sub.2 ⟨h1, pth_trans l i b a h2 h⟩

theorem opN_path {c : Cb} (hg : c.good) (st : List Int) {f : Nat} (hf : f < c.l.length) : opN c.l st f ∈ pth c.l f := by
  rcases opFold_in c.l st (pth c.l f) 0 with h | h
  · unfold opN; rw [h]; exact pth_root (good_tr hg) f hf
  · exact h

theorem mem_goneStep {l : List Nd} {st : List Int} {G : List Nat} {f i : Nat} : i ∈ goneStep l st G f ↔ i ∈ G ∨ (f ∉ G ∧ i ∈ sub l (opN l st f)) := by
  unfold goneStep
  by_cases h : f ∈ G
  · rw [if_pos h]
    exact ⟨.inl, fun k => k.elim id fun k => absurd h k.1⟩
  · rw [if_neg h]
    simp only [List.mem_append, List.mem_filter, decide_eq_true_eq]
    constructor
    · rintro (k | k)
      · exact .inl k
      · exact .inr ⟨h, k.1⟩
    · rintro (k | k)
      · exact .inl k
      · by_cases hi : i ∈ G
        · exact .inl hi
        · exact .inr ⟨k.2, hi⟩

/-- with each node its subtree -/
theorem gone_sub {l : List Nd} {st : List Int} : ∀ (fs G : List Nat), (∀ i ∈ G, ∀ j ∈ sub l i, j ∈ G) → ∀ i ∈ fs.foldl (goneStep l st) G, ∀ j ∈ sub l i, j ∈ fs.foldl (goneStep l st) G
  | [], G, h => h
  | f :: fs, G, h => gone_sub fs _ fun i hi j hj => by
    rw [mem_goneStep] at hi ⊢
    rcases hi with hi | ⟨h1, h2⟩
    · exact .inl (h i hi j hj)
    · exact .inr ⟨h1, sub_trans (mem_sub.1 h2).2 hj⟩
theorem gone_grow {l : List Nd} {st : List Int} : ∀ (fs G : List Nat), ∀ i ∈ G, i ∈ fs.foldl (goneStep l st) G
  | [], G, i, h => h
  | f :: fs, G, i, h => gone_grow fs _ i (mem_goneStep.2 (.inl h))
theorem gone_has {c : Cb} (hg : c.good) {st : List Int} : ∀ (fs G : List Nat), ∀ f ∈ fs, f < c.l.length → f ∈ fs.foldl (goneStep c.l st) G
  | [], G, f, h, _ => by cases h
  | g :: fs, G, f, h, hf => by
    rcases List.mem_cons.1 h with rfl | h
    · refine gone_grow fs _ f ?_
      rw [mem_goneStep]
      by_cases hG : f ∈ G
      · exact .inl hG
      · exact .inr ⟨hG, mem_sub.2 ⟨hf, opN_path hg st hf⟩⟩
    · exact gone_has hg fs _ f h hf

theorem mem_lost {l : List Nd} {st : List Int} {fs : List Nat} {i : Nat} : i ∈ lostL l st fs ↔ i ∈ gone l st fs := by
  unfold lostL
  simp only [List.mem_filter, List.mem_range, decide_eq_true_eq]
  exact ⟨fun h => h.2, fun h => ⟨gone_lt h, h⟩⟩

theorem lost_sub {l : List Nd} {st : List Int} {fs : List Nat} {i j : Nat} (hi : i ∈ lostL l st fs) (hj : j ∈ sub l i) : j ∈ lostL l st fs := by
  rw [mem_lost] at hi ⊢
  exact gone_sub fs [] (by intro i h; cases h) i hi j hj
theorem lost_has {c : Cb} (hg : c.good) {st : List Int} {fs : List Nat} {f : Nat} (h : f ∈ fs) (hf : f < c.l.length) : f ∈ lostL c.l st fs := by
  rw [mem_lost]; exact gone_has hg fs [] f h hf
theorem lost_fewer {l : List Nd} {st : List Int} {fs gs : List Nat} {i : Nat} (h : i ∈ lostL l st fs) : i ∈ lostL l st (fs ++ gs) := by
  rw [mem_lost] at h ⊢
  unfold gone
  rw [List.foldl_append]
  exact gone_grow gs _ i h

theorem find_split {v : List Nat} {p : Nat → Bool} {x : Nat} (h : v.find? p = some x) : ∃ l1 l2, v = l1 ++ x :: l2 ∧ p x = true ∧ ∀ y ∈ l1, p y = false := by
  obtain ⟨h1, l1, l2, h2, h3⟩ := List.find?_eq_some_iff_append.1 h
  exact ⟨l1, l2, h2, h1, fun y hy => by simpa using h3 y hy⟩

theorem op_nested {c : Cb} (hg : c.good) {m : Int} (hm : 1 ≤ m) (hc : Coo c.l m) {st : List Int} {f g : Nat} (hf : f < c.l.length) (h : g ∈ sub c.l (opN c.l st f)) {i : Nat} (hi : i ∈ sub c.l (opN c.l st g)) : i ∈ sub c.l (opN c.l st f) := by
  have t := good_tr hg
  obtain ⟨hgn, hgp⟩ := mem_sub.1 h
  by_cases h0 : opN c.l st f = 0
  · rw [h0, sub_zero t]
    simpa using (mem_sub.1 hi).1
  · have e1 := open_first hg hm hc st hf
    have e2 := open_first hg hm hc st hgn
    cases hff : (pth c.l f).find? (free c.l st) with
    | none => rw [hff] at e1; exact absurd e1 h0
    | some b =>
      rw [hff] at e1
      have e1 : opN c.l st f = b := e1
      rw [e1] at hgp ⊢
      have hfb := List.find?_some hff
      cases hfg : (pth c.l g).find? (free c.l st) with
      | none =>
        rw [List.find?_eq_none] at hfg
        exact absurd hfb (by simpa using hfg b hgp)
      | some b' =>
        rw [hfg] at e2
        have e2 : opN c.l st g = b' := e2
        rw [e2] at hi
        obtain ⟨l1, l2, k1, k2, k3⟩ := find_split hfg
        have hbm : b ∈ b' :: l2 := by
          rw [k1] at hgp
          rcases List.mem_append.1 hgp with h | h
          · have := k3 b h
            rw [hfb] at this; cases this
          · exact h
        have hle : b ≤ b' := by
          rcases List.mem_cons.1 hbm with rfl | h
          · exact Nat.le_refl _
          · have hd := pth_dec c.l g
            rw [k1] at hd
            have := (List.pairwise_cons.1 (List.pairwise_append.1 hd).2.1).1 b h
            omega
        have hb'g : b' ∈ pth c.l g := by rw [k1]; simp
        exact sub_trans (pth_lin c.l g b' b hb'g hgp hle) hi

/-- if a cable is coordinated, all that the faults' breakers lead to is lost -/
theorem gone_coo {c : Cb} (hg : c.good) {m : Int} (hm : 1 ≤ m) (hc : Coo c.l m) {st : List Int} : ∀ (fs G : List Nat), (∀ f ∈ fs, f < c.l.length) → (∀ f ∈ G, f < c.l.length → ∀ i ∈ sub c.l (opN c.l st f), i ∈ G) →
    ∀ i, i ∈ fs.foldl (goneStep c.l st) G ↔ i ∈ G ∨ ∃ f ∈ fs, i ∈ sub c.l (opN c.l st f)
  | [], G, _, _, i => by simp
  | f :: fs, G, h1, h2, i => by
    have ih := gone_coo hg hm hc fs (goneStep c.l st G f) (fun g hg => h1 g (by simp [hg])) (fun g hgG hgn j hj => by
      rw [mem_goneStep] at hgG ⊢
      rcases hgG with k | ⟨k1, k2⟩
      · exact .inl (h2 g k hgn j hj)
      · exact .inr ⟨k1, op_nested hg hm hc (h1 f (by simp)) k2 hj⟩) i
    show i ∈ fs.foldl (goneStep c.l st) (goneStep c.l st G f) ↔ _
    rw [ih, mem_goneStep]
    simp only [List.mem_cons, exists_eq_or_imp]
    constructor
    · rintro ((k | k) | k)
      · exact .inl k
      · exact .inr (.inl k.2)
      · exact .inr (.inr k)
    · rintro (k | k | k)
      · exact .inl (.inl k)
      · by_cases hfG : f ∈ G
        · exact .inl (.inl (h2 f hfG (h1 f (by simp)) i k))
        · exact .inl (.inr ⟨hfG, k⟩)
      · exact .inr k

theorem lost_order {c : Cb} (hg : c.good) {m : Int} (hm : 1 ≤ m) (hc : Coo c.l m) {st : List Int} {fs gs : List Nat} (hf : ∀ f ∈ fs, f < c.l.length) (h : ∀ f, f ∈ fs ↔ f ∈ gs) : lostL c.l st fs = lostL c.l st gs := by
  unfold lostL
  refine List.filter_congr fun i _ => ?_
  have e : i ∈ gone c.l st fs ↔ i ∈ gone c.l st gs := by
    unfold gone
    rw [gone_coo hg hm hc fs [] hf (by intro f h; cases h), gone_coo hg hm hc gs [] (fun f hf' => hf f ((h f).2 hf')) (by intro f h; cases h)]
    simp only [List.not_mem_nil, false_or]
    exact ⟨fun ⟨f, k1, k2⟩ => ⟨f, (h f).1 k1, k2⟩, fun ⟨f, k1, k2⟩ => ⟨f, (h f).2 k1, k2⟩⟩
  by_cases hi : i ∈ gone c.l st fs
  · rw [decide_eq_true hi, decide_eq_true (e.1 hi)]
  · rw [decide_eq_false hi, decide_eq_false (fun k => hi (e.2 k))]

end Go.Proofs.Ytphfdbmbdaninaa.Ab
