/- Archive: the entry that counts has the greatest version, plain. -/
import Derived.Test.YtdmgljlabigljaaYE
namespace Go.Proofs.Ytdmgljlabigljaa.Ab
open Go Go.RowKit Go.Proofs
set_option linter.unusedSimpArgs false
set_option linter.unusedVariables false
attribute [local irreducible] Awp wpO thenQ blockQ bodyQ ACalls stepA

def arrB (asOf : Int) (e : Ent) : Bool := decide (e.arrived ≤ asOf)
theorem sameE_iff {a b : Ent} : sameE a b = true ↔ a.series = b.series ∧ a.time = b.time := by unfold sameE; rw [decide_eq_true_eq]
theorem sameE_no {a b : Ent} : sameE a b = false ↔ ¬ (a.series = b.series ∧ a.time = b.time) := by unfold sameE; rw [decide_eq_false_iff_not]
theorem isST_iff {s t : Int} {e : Ent} : isST s t e = true ↔ e.series = s ∧ e.time = t := by unfold isST; rw [decide_eq_true_eq]
theorem ltK_iff {a b : Ent} : ltK a.key b.key ↔ a.series < b.series ∨ (a.series = b.series ∧ (a.time < b.time ∨ (a.time = b.time ∧ a.version < b.version))) := by
  exact Iff.rfl
theorem last_rel {R : Ent → Ent → Prop} : ∀ {F : List Ent} {l x : Ent}, F.Pairwise R → F.getLast? = some l → x ∈ F → x = l ∨ R x l := by
  intro F l x hp hl hx
  have hne : F ≠ [] := List.ne_nil_of_mem hx
  have h1 : F = F.dropLast ++ [l] := by
    rw [List.getLast?_eq_some_getLast hne] at hl
    rw [← Option.some.inj hl]
    exact (List.dropLast_concat_getLast hne).symm
  rw [h1] at hp hx
  rcases List.mem_append.1 hx with h | h
  · exact .inr ((List.pairwise_append.1 hp).2.2 x h l (by simp))
  · simp at h; exact .inl h

structure CI (asOf : Int) (P : List Ent) : Prop where
  last : (cntS asOf P).2 = (P.filter (arrB asOf)).getLast?
  mem : ∀ d ∈ (cntS asOf P).1, d ∈ P.filter (arrB asOf)
  ne : ∀ l, (cntS asOf P).2 = some l → ∀ d ∈ (cntS asOf P).1, sameE d l = false
  fnd : ∀ s t, (cntL asOf P).find? (isST s t) = ((P.filter (arrB asOf)).filter (isST s t)).getLast?

theorem cntS_snoc (asOf : Int) (P : List Ent) (e : Ent) : cntS asOf (P ++ [e]) = stepC asOf (cntS asOf P) e := by unfold cntS; rw [List.foldl_append]; rfl

theorem CI.step {asOf : Int} {P : List Ent} {e : Ent} (h : CI asOf P) (hs : Srt (P ++ [e])) : CI asOf (P ++ [e]) := by
  have hsP : P.Pairwise fun a b => ltK a.key b.key := (List.pairwise_append.1 hs).1
  have hse : ∀ x ∈ P, ltK x.key e.key := fun x hx => (List.pairwise_append.1 hs).2.2 x hx e (by simp)
  have hsF := hsP.filter (arrB asOf)
  by_cases ha : e.arrived > asOf
  · have e1 : cntS asOf (P ++ [e]) = cntS asOf P := by rw [cntS_snoc]; unfold stepC; rw [if_pos ha]
    have e2 : (P ++ [e]).filter (arrB asOf) = P.filter (arrB asOf) := by
      rw [List.filter_append]; simp [arrB, show ¬ e.arrived ≤ asOf by omega]
    have e3 : cntL asOf (P ++ [e]) = cntL asOf P := by unfold cntL; rw [e1]
    exact ⟨by rw [e1, e2]; exact h.last, by rw [e1, e2]; exact h.mem, by rw [e1]; exact h.ne, fun s t => by rw [e3, e2]; exact h.fnd s t⟩
  have e2 : (P ++ [e]).filter (arrB asOf) = P.filter (arrB asOf) ++ [e] := by
    rw [List.filter_append]; simp [arrB, show e.arrived ≤ asOf by omega]
  cases hl : (cntS asOf P).2 with
  | none =>
    have hF : P.filter (arrB asOf) = [] := by
      have := h.last
      rw [hl] at this
      exact List.getLast?_eq_none_iff.1 this.symm
    have hd : (cntS asOf P).1 = [] := by
      cases hd : (cntS asOf P).1 with
      | nil => rfl
      | cons d D => have := h.mem d (by rw [hd]; simp); rw [hF] at this; cases this
    have e1 : cntS asOf (P ++ [e]) = ([], some e) := by rw [cntS_snoc]; unfold stepC; rw [if_neg ha, hl, hd]
    have e3 : cntL asOf (P ++ [e]) = [e] := by unfold cntL; rw [e1]; rfl
    refine ⟨by rw [e1, e2, hF]; rfl, by rw [e1]; simp, by rw [e1]; simp, fun s t => ?_⟩
    rw [e3, e2, hF, List.nil_append]
    by_cases hst : isST s t e = true
    · simp [List.find?_cons, hst]
    · simp [List.find?_cons, hst]
  | some l =>
    have hlF : (P.filter (arrB asOf)).getLast? = some l := by rw [← h.last, hl]
    have hlm : l ∈ P.filter (arrB asOf) := List.mem_of_getLast? hlF
    have hle := hse l (List.mem_filter.1 hlm).1
    have hlast : ∀ x ∈ P.filter (arrB asOf), x = l ∨ ltK x.key l.key := fun x hx => last_rel hsF hlF hx
    by_cases hsm : sameE l e = true
    · have e1 : cntS asOf (P ++ [e]) = ((cntS asOf P).1, some e) := by rw [cntS_snoc]; unfold stepC; rw [if_neg ha, hl]; simp only [hsm, if_true]
      have e3 : cntL asOf (P ++ [e]) = (cntS asOf P).1 ++ [e] := by unfold cntL; rw [e1]; rfl
      have e4 : cntL asOf P = (cntS asOf P).1 ++ [l] := by unfold cntL; rw [hl]; rfl
      refine ⟨by rw [e1, e2]; simp, by rw [e1, e2]; exact fun d hd => List.mem_append_left _ (h.mem d hd), ?_, fun s t => ?_⟩
      · rw [e1]
        intro l' hl' d hd
        simp only [Option.some.injEq] at hl'
        subst hl'
        have := h.ne l hl d hd
        rw [sameE_no] at this ⊢
        rw [sameE_iff] at hsm
        omega
      · have h0 := h.fnd s t
        rw [e4, List.find?_append] at h0
        rw [e3, e2, List.find?_append, List.filter_append]
        have hiff : isST s t l = isST s t e := by
          rw [sameE_iff] at hsm
          unfold isST; rw [hsm.1, hsm.2]
        by_cases hst : isST s t e = true
        · have hno : (cntS asOf P).1.find? (isST s t) = none := List.find?_eq_none.2 fun d hd hdst => by
            have := h.ne l hl d hd
            rw [sameE_no] at this
            rw [isST_iff] at hdst
            rw [← hiff, isST_iff] at hst
            omega
          rw [hno]
          simp [List.find?_cons, hst]
        · simp only [Bool.not_eq_true] at hst
          have hst2 := hiff.trans hst
          simp only [List.find?_cons, List.find?_nil, hst, hst2, List.filter_cons, List.filter_nil, List.append_nil, Bool.false_eq_true, if_false] at h0 ⊢
          exact h0
    · have hsm' : sameE l e = false := by simpa using hsm
      have e1 : cntS asOf (P ++ [e]) = ((cntS asOf P).1 ++ [l], some e) := by rw [cntS_snoc]; unfold stepC; rw [if_neg ha, hl]; simp only [hsm', Bool.false_eq_true, if_false]
      have e3 : cntL asOf (P ++ [e]) = cntL asOf P ++ [e] := by unfold cntL; rw [e1, hl]; rfl
      have hfar : ∀ x ∈ P.filter (arrB asOf), sameE x e = false := by
        intro x hx
        rw [sameE_no] at hsm' ⊢
        rw [ltK_iff] at hle
        rcases hlast x hx with rfl | hxl
        · exact hsm'
        · rw [ltK_iff] at hxl
          omega
      refine ⟨by rw [e1, e2]; simp, ?_, ?_, fun s t => ?_⟩
      · rw [e1, e2]
        intro d hd
        rcases List.mem_append.1 hd with hd | hd
        · exact List.mem_append_left _ (h.mem d hd)
        · simp at hd; subst hd; exact List.mem_append_left _ hlm
      · rw [e1]
        intro l' hl' d hd
        simp only [Option.some.injEq] at hl'
        subst hl'
        rcases List.mem_append.1 hd with hd | hd
        · exact hfar d (h.mem d hd)
        · simp at hd; subst hd; exact hsm'
      · rw [e3, e2, List.find?_append, List.filter_append, h.fnd s t]
        by_cases hst : isST s t e = true
        · have hno : (P.filter (arrB asOf)).filter (isST s t) = [] := List.filter_eq_nil_iff.2 fun x hx hxst => by
            have := hfar x hx
            rw [sameE_no] at this
            rw [isST_iff] at hxst hst
            omega
          rw [hno]
          simp [List.find?_cons, hst]
        · simp only [Bool.not_eq_true] at hst
          simp only [List.find?_cons, List.find?_nil, hst, List.filter_cons, List.filter_nil, List.append_nil]
          simp
theorem CI_all {asOf : Int} {L : List Ent} (hs : Srt L) : CI asOf L := by
  have h : ∀ n, CI asOf (L.take n) := by
    intro n
    induction n with
    | zero => exact ⟨rfl, by simp [cntS], by simp [cntS], fun s t => rfl⟩
    | succ n ih =>
      by_cases hn : n < L.length
      · obtain ⟨e, he⟩ := nth hn
        rw [List.take_add_one, he]
        refine ih.step ?_
        have h2 : L.take n ++ (some e).toList = L.take (n + 1) := by rw [List.take_add_one, he]
        show Srt (L.take n ++ (some e).toList)
        rw [h2]
        exact hs.sublist (List.take_sublist _ _)
      · rw [List.take_of_length_le (by omega)]
        rwa [List.take_of_length_le (by omega)] at ih
  have := h L.length
  rwa [List.take_length] at this

/-- those that have arrived -/
def arrST (s t asOf : Int) (L : List Ent) : List Ent := (L.filter (arrB asOf)).filter (isST s t)
theorem arrST_mem {s t asOf : Int} {L : List Ent} {e : Ent} : e ∈ arrST s t asOf L ↔ e ∈ L ∧ e.arrived ≤ asOf ∧ e.series = s ∧ e.time = t := by
  unfold arrST
  rw [List.mem_filter, List.mem_filter, isST_iff, arrB, decide_eq_true_eq]
  exact and_assoc
theorem cnt_best {s t asOf : Int} {L : List Ent} (hs : Srt L) :
    (((cntL asOf L).find? (isST s t) = none ∧ ∀ e ∈ L, e.arrived ≤ asOf → e.series = s → e.time = t → False) ∨
      ∃ l, (cntL asOf L).find? (isST s t) = some l ∧ l ∈ L ∧ l.arrived ≤ asOf ∧ l.series = s ∧ l.time = t ∧ ∀ e ∈ L, e.arrived ≤ asOf → e.series = s → e.time = t → e.version ≤ l.version) := by
  have h := (CI_all (asOf := asOf) hs).fnd s t
  have hsF : (arrST s t asOf L).Pairwise fun a b => ltK a.key b.key := (hs.filter _).filter _
  change _ = (arrST s t asOf L).getLast? at h
  cases hl : (arrST s t asOf L).getLast? with
  | none =>
    refine .inl ⟨by rw [h, hl], fun e he h1 h2 h3 => ?_⟩
    have h4 := List.getLast?_eq_none_iff.1 hl
    have h5 := arrST_mem.2 ⟨he, h1, h2, h3⟩
    rw [h4] at h5
    cases h5
  | some l =>
    obtain ⟨m1, m2, m3, m4⟩ := arrST_mem.1 (List.mem_of_getLast? hl)
    refine .inr ⟨l, by rw [h, hl], m1, m2, m3, m4, fun e he h1 h2 h3 => ?_⟩
    rcases last_rel hsF hl (arrST_mem.2 ⟨he, h1, h2, h3⟩) with rfl | hlt
    · exact Int.le_refl _
    · rw [ltK_iff] at hlt; omega

/-- the greatest version, as the law counts it -/
def bstS (s t asOf : Int) (b : Int) (e : Ent) : Int := if e.series = s ∧ e.time = t ∧ e.arrived ≤ asOf then max b e.version else b
def bstL (s t asOf : Int) (L : List Ent) : Int := L.foldl (bstS s t asOf) (-1)
theorem bst_fold {s t asOf : Int} : ∀ (L : List Ent) (b : Int), b ≤ L.foldl (bstS s t asOf) b ∧ (∀ e ∈ L, e.series = s → e.time = t → e.arrived ≤ asOf → e.version ≤ L.foldl (bstS s t asOf) b) ∧ (L.foldl (bstS s t asOf) b = b ∨ ∃ e ∈ L, e.series = s ∧ e.time = t ∧ e.arrived ≤ asOf ∧ L.foldl (bstS s t asOf) b = e.version)
  | [], b => ⟨Int.le_refl _, by simp, .inl rfl⟩
  | x :: L, b => by
    obtain ⟨h1, h2, h3⟩ := bst_fold (s := s) (t := t) (asOf := asOf) L (bstS s t asOf b x)
    rw [List.foldl_cons]
    have hb : b ≤ bstS s t asOf b x := by unfold bstS; split <;> omega
    have hx : x.series = s → x.time = t → x.arrived ≤ asOf → x.version ≤ bstS s t asOf b x := fun a1 a2 a3 => by unfold bstS; rw [if_pos ⟨a1, a2, a3⟩]; omega
    have hx2 : bstS s t asOf b x = b ∨ (x.series = s ∧ x.time = t ∧ x.arrived ≤ asOf ∧ bstS s t asOf b x = x.version) := by
      unfold bstS
      split
      · next hc =>
        by_cases hm : b ≤ x.version
        · exact .inr ⟨hc.1, hc.2.1, hc.2.2, by omega⟩
        · exact .inl (by omega)
      · exact .inl rfl
    refine ⟨by omega, fun e he a1 a2 a3 => ?_, ?_⟩
    · rcases List.mem_cons.1 he with rfl | he
      · have := hx a1 a2 a3; omega
      · exact h2 e he a1 a2 a3
    · rcases h3 with h3 | ⟨e, he, a1, a2, a3, a4⟩
      · rcases hx2 with h4 | ⟨a1, a2, a3, a4⟩
        · exact .inl (h3.trans h4)
        · exact .inr ⟨x, List.mem_cons_self, a1, a2, a3, h3.trans a4⟩
      · exact .inr ⟨e, List.mem_cons_of_mem _ he, a1, a2, a3, a4⟩

/-- what the law says of what Counts answers -/
theorem versions_plain {S : List Ser} {L : List Ent} (hs : Srt L) (hv : ∀ e ∈ L, 0 ≤ e.version) {s t asOf thn : Int} (hle : asOf ≤ thn) :
    (cntsF S L s t asOf).1 = 2 ∨
    ((cntsF S L s t asOf).1 = 5 ∧ bstL s t asOf L < 0) ∨
    ((cntsF S L s t asOf).1 = 0 ∧ 0 ≤ bstL s t asOf L ∧ (cntsF S L s t asOf).2.version = bstL s t asOf L ∧ (cntsF S L s t asOf).2.series = s ∧ (cntsF S L s t asOf).2.time = t ∧ (cntsF S L s t asOf).2.arrived ≤ asOf ∧
      ((cntsF S L s t thn).1 = 2 ∨ ((cntsF S L s t thn).1 = 0 ∧ (cntsF S L s t asOf).2.version ≤ (cntsF S L s t thn).2.version))) := by
  obtain ⟨f1, f2, f3⟩ := bst_fold (s := s) (t := t) (asOf := asOf) L (-1)
  change bstL s t asOf L = -1 ∨ _ at f3
  change ∀ e ∈ L, _ → _ → _ → e.version ≤ bstL s t asOf L at f2
  unfold cntsF
  by_cases hbad : s < 0 ∨ s ≥ (S.length : Int) ∨ timesB [t, asOf] = false
  · rw [if_pos hbad]; exact .inl rfl
  rw [if_neg hbad]
  rcases cnt_best (s := s) (t := t) (asOf := asOf) hs with ⟨h1, h2⟩ | ⟨l, h1, h2, h3, h4, h5, h6⟩
  · refine .inr (.inl ⟨by rw [h1], ?_⟩)
    rcases f3 with f3 | ⟨e, he, a1, a2, a3, _⟩
    · omega
    · exact (h2 e he a3 a1 a2).elim
  · refine .inr (.inr ?_)
    rw [h1]
    have g1 := f2 l h2 h4 h5 h3
    have g2 := hv l h2
    have g3 : l.version = bstL s t asOf L := by
      rcases f3 with f3 | ⟨e, he, a1, a2, a3, a4⟩
      · omega
      · have g5 : bstL s t asOf L = e.version := a4
        have := h6 e he a3 a1 a2
        omega
    refine ⟨rfl, by omega, g3, h4, h5, h3, ?_⟩
    by_cases hbad2 : s < 0 ∨ s ≥ (S.length : Int) ∨ timesB [t, thn] = false
    · rw [if_pos hbad2]; exact .inl rfl
    · rw [if_neg hbad2]
      rcases cnt_best (s := s) (t := t) (asOf := thn) hs with ⟨k1, k2⟩ | ⟨m, k1, k2, k3, k4, k5, k6⟩
      · exact (k2 l h2 (by omega) h4 h5).elim
      · rw [k1]
        exact .inr ⟨rfl, k6 l h2 (by omega) h4 h5⟩
theorem accB_ver {S : List Ser} {e : Ent} (h : accB S e = true) : 0 ≤ e.version := by
  unfold accB at h
  simp only [Bool.and_eq_true, decide_eq_true_eq] at h
  exact h.1.1.2.1

end Go.Proofs.Ytdmgljlabigljaa.Ab
