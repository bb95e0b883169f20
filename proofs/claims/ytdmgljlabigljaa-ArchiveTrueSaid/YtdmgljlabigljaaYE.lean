/- Archive: what stays in bounds. -/
import Derived.Test.YtdmgljlabigljaaYC
namespace Go.Proofs.Ytdmgljlabigljaa.Ab
open Go Go.RowKit Go.Proofs
set_option linter.unusedSimpArgs false
set_option linter.unusedVariables false
attribute [local irreducible] Awp wpO thenQ blockQ bodyQ ACalls stepA

theorem addL_mem {S : List Ser} {L : List Ent} {e x : Ent} (h : x ∈ addL S L e) : x ∈ L ∨ (x = e ∧ accB S e = true) := by
  unfold addL at h
  split at h
  · next ha =>
    split at h
    · exact .inl h
    · split at h
      · exact .inl h
      · rcases (insE_mem _ _ _).1 h with h | h
        · exact .inr ⟨h, ha⟩
        · exact .inl h
  · exact .inl h
theorem foldl_addL_mem {S : List Ser} {x : Ent} : ∀ (l L : List Ent), x ∈ l.foldl (addL S) L → x ∈ L ∨ (x ∈ l ∧ accB S x = true)
  | [], L, h => .inl h
  | e :: l, L, h => by
    rw [List.foldl_cons] at h
    rcases foldl_addL_mem l _ h with h | ⟨h1, h2⟩
    · rcases addL_mem h with h | ⟨rfl, h2⟩
      · exact .inl h
      · exact .inr ⟨List.mem_cons_self, h2⟩
    · exact .inr ⟨List.mem_cons_of_mem _ h1, h2⟩
theorem fillL_mem {S : List Ser} {l : List Ent} {x : Ent} (h : x ∈ fillL S l) : x ∈ l ∧ accB S x = true := by
  rcases foldl_addL_mem l [] h with h | h
  · cases h
  · exact h
theorem foldl_addL_len {S : List Ser} : ∀ (l L : List Ent), (l.foldl (addL S) L).length ≤ L.length + l.length
  | [], L => by simp
  | e :: l, L => by
    rw [List.foldl_cons]
    have h1 := foldl_addL_len (S := S) l (addL S L e)
    have h2 : (addL S L e).length ≤ L.length + 1 := by
      unfold addL
      split
      · split
        · omega
        · split
          · omega
          · rw [(insE_perm e L).length_eq]; simp
      · omega
    rw [List.length_cons]
    omega
theorem fillL_len (S : List Ser) (l : List Ent) : (fillL S l).length ≤ l.length := by
  have := foldl_addL_len (S := S) l []
  simpa [fillL] using this
theorem goodS_mem : ∀ {S : List Ser} {T : List (ByteArray × Unit)} {s : Ser}, goodS T S = true → s ∈ S → spanB s.lo s.hi = true
  | [], _, _, _, h => by cases h
  | x :: S, T, s, hg, h => by
    unfold goodS at hg
    simp only [Bool.and_eq_true] at hg
    rcases List.mem_cons.1 h with rfl | h
    · exact hg.1.2
    · exact goodS_mem hg.2 h
theorem spanB_in {lo hi : Int} (h : spanB lo hi = true) : InB lo ∧ InB hi := by
  unfold spanB at h
  rw [decide_eq_true_eq] at h
  unfold InB
  omega
theorem newC_good {S : List Ser} (h : newC S = 0) : goodS [] S = true := by
  unfold newC at h
  split at h
  · omega
  · split at h
    · assumption
    · omega
theorem accB_span {S : List Ser} {e : Ent} (h : accB S e = true) : ∃ b, S[e.series.toNat]? = some b ∧ spanB e.lo e.hi = true ∧ b.lo ≤ e.lo ∧ e.hi ≤ b.hi := by
  unfold accB at h
  simp only [Bool.and_eq_true] at h
  have h := h.2
  split at h
  · next b hb =>
    simp only [Bool.and_eq_true, decide_eq_true_eq] at h
    exact ⟨b, hb, h.1.1.2, h.1.2, h.2⟩
  · cases h
theorem fill_bnd {S : List Ser} (hn : newC S = 0) (l : List Ent) : Bnd S (fillL S l) :=
  ⟨fun s hs => spanB_in (goodS_mem (newC_good hn) hs), fun e he => by
    obtain ⟨b, _, h, _⟩ := accB_span (fillL_mem he).2
    exact spanB_in h⟩

end Go.Proofs.Ytdmgljlabigljaa.Ab
