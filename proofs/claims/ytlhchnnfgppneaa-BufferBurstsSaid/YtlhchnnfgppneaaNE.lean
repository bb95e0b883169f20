/- Buffers: what Put keeps, plain. -/
import Derived.Test.YtlhchnnfgppneaaND
namespace Go.Proofs.Ytlhchnnfgppneaa.Ab
open Go Go.RowKit Go.Proofs
set_option linter.unusedSimpArgs false
set_option linter.unusedVariables false
attribute [local irreducible] Awp wpO thenQ blockQ bodyQ ACalls stepA

theorem fnd_none {x : Int} {L : List Hd} (h : x ∉ idsL L) : fnd x L 0 = -1 := by
  rcases fnd_spec (x := x) L 0 with ⟨h1, _⟩ | ⟨k, y, _, h2, h3⟩
  · exact h1
  · exact absurd (List.mem_map.2 ⟨y, List.mem_of_getElem? h2, h3⟩) h
theorem fnd_ge {x : Int} {L : List Hd} : 0 ≤ fnd x L 0 ↔ x ∈ idsL L := by
  rcases fnd_spec (x := x) L 0 with ⟨h1, h2⟩ | ⟨k, y, h1, h2, h3⟩
  · rw [h1]; exact ⟨fun h => by omega, fun h => absurd h h2⟩
  · rw [h1]; exact ⟨fun _ => List.mem_map.2 ⟨y, List.mem_of_getElem? h2, h3⟩, fun _ => by omega⟩
theorem fnd_at {L : List Hd} (hn : (idsL L).Nodup) {i : Nat} {h : Hd} (hi : L[i]? = some h) : fnd h.r.id L 0 = (i : Int) := by
  rcases fnd_spec (x := h.r.id) L 0 with ⟨_, h2⟩ | ⟨k, y, h1, h2, h3⟩
  · exact absurd (List.mem_map.2 ⟨h, List.mem_of_getElem? hi, rfl⟩) h2
  · rw [h1]
    have a1 : (idsL L)[i]? = some h.r.id := by unfold idsL; rw [List.getElem?_map, hi]; rfl
    have a2 : (idsL L)[k]? = some h.r.id := by unfold idsL; rw [List.getElem?_map, h2, ← h3]; rfl
    have l1 := List.getElem?_eq_some_iff.1 a1
    have l2 := List.getElem?_eq_some_iff.1 a2
    have : i = k := by
      rcases Nat.lt_trichotomy i k with c | c | c
      · exact absurd (l1.2.trans l2.2.symm) (List.pairwise_iff_getElem.1 hn i k l1.1 l2.1 c)
      · exact c
      · exact absurd (l2.2.trans l1.2.symm) (List.pairwise_iff_getElem.1 hn k i l2.1 l1.1 c)
    subst this; simp

/-- what a Put that is not refused leaves -/
structure Kept (S : Bf) (r : Item) (S' : Bf) (ds : List Int) : Prop where
  good : Good S'
  cap : S'.cap = S.cap
  time : S'.time = S.time
  used : S'.used ≤ S'.cap
  l256 : S'.L.length ≤ 256
  len : S'.L.length + ds.length = S.L.length + 1
  was : ∀ h ∈ S'.L, (fnd h.r.id S.L 0 = -1 ∧ h.r = r) ∨ ∃ (i : Nat) (y : Hd), fnd h.r.id S.L 0 = i ∧ S.L[i]? = some y ∧ (y.sm = true → h.sm = true)
  mem : ∀ h ∈ S'.L, h.r = r ∨ ∃ y ∈ S.L, y.r = h.r
  drp : ∀ d ∈ ds, ∃ x : Item, x.id = d ∧ (x = r ∨ ∃ y ∈ S.L, y.r = x) ∧ ∀ h ∈ S'.L, lessR x h.r ∧ (h.sm = true ∨ ¬ h.r.pk < h.r.size)
theorem kept {S : Bf} {r : Item} (hg : Good S) (hl : S.L.length ≤ 255) (hE : putE S r = 0) : Kept S r (putR S r).1 (putR S r).2 := by
  obtain ⟨hr, hm⟩ : r.ok ∧ r.id ∉ idsL S.L := by
    rcases putE_ok S r with ⟨_, _, h⟩ | ⟨h1, _, ⟨_, h⟩ | ⟨h2, ⟨_, h⟩ | ⟨_, _⟩⟩⟩
    · rw [hE] at h; cases h
    · rw [hE] at h; cases h
    · rw [hE] at h; cases h
    · exact ⟨h1, h2⟩
  have hgi := hg.insG (by omega) hr hm
  obtain ⟨hs, hno⟩ := shr_spec (S.ins r).mu (Shr.start hgi) (Nat.le_refl _)
  have hP : putR S r = shr (S.ins r).mu (S.ins r) [] := by unfold putR; rw [if_pos hE]
  rw [← hP] at hs hno
  generalize (putR S r).1 = S' at *
  generalize (putR S r).2 = ds at *
  have hil : (S.ins r).L.length = S.L.length + 1 := insA_len
  have hmem : ∀ y, y ∈ (S.ins r).L ↔ y = ⟨r, false, -1⟩ ∨ y ∈ S.L := fun y => insA_mem
  have hat : ∀ (k : Nat) (h : Hd), S'.L[k]? = some h → ∃ y : Hd, (S.ins r).L[k]? = some y ∧ y.r = h.r ∧ (y.sm = true → h.sm = true) := by
    intro k h hk
    have hkl := (List.getElem?_eq_some_iff.1 hk).1
    have h1 : (recs S'.L)[k]? = some h.r := by unfold recs; rw [List.getElem?_map, hk]; rfl
    rw [hs.recs, List.getElem?_take, if_pos hkl] at h1
    unfold recs at h1
    rw [List.getElem?_map] at h1
    cases e : (S.ins r).L[k]? with
    | none => rw [e] at h1; cases h1
    | some y =>
      rw [e] at h1
      have h2 : y.r = h.r := by simpa using h1
      exact ⟨y, rfl, h2, (hs.keep k h y hk e).1⟩
  unfold Bf.over at hno
  refine ⟨hs.good, hs.cap, hs.time, by omega, by omega, by rw [hs.len, hil], ?_, ?_, ?_⟩
  · intro h hh
    obtain ⟨k, hk⟩ := List.getElem?_of_mem hh
    obtain ⟨y, hy, he, hsm⟩ := hat k h hk
    rcases (hmem y).1 (List.mem_of_getElem? hy) with rfl | hyS
    · have he' : r = h.r := he
      rw [← he']
      exact .inl ⟨fnd_none hm, rfl⟩
    · obtain ⟨i, hi⟩ := List.getElem?_of_mem hyS
      rw [← he]
      exact .inr ⟨i, y, fnd_at hg.nd hi, hi, hsm⟩
  · intro h hh
    obtain ⟨k, hk⟩ := List.getElem?_of_mem hh
    obtain ⟨y, hy, he, _⟩ := hat k h hk
    rcases (hmem y).1 (List.mem_of_getElem? hy) with rfl | hyS
    · exact .inl he.symm
    · exact .inr ⟨y, hyS, he⟩
  · intro d hd
    obtain ⟨x, hx, hxd⟩ := hs.drp d hd
    obtain ⟨j, hj⟩ := List.getElem?_of_mem hx
    rw [List.getElem?_drop] at hj
    unfold recs at hj
    rw [List.getElem?_map] at hj
    cases e : (S.ins r).L[S'.L.length + j]? with
    | none => rw [e] at hj; cases hj
    | some y =>
      rw [e] at hj
      have hyx : y.r = x := by simpa using hj
      refine ⟨x, hxd, ?_, fun h hh => ⟨?_, ?_⟩⟩
      · rcases (hmem y).1 (List.mem_of_getElem? e) with rfl | hyS
        · exact .inl hyx.symm
        · exact .inr ⟨y, hyS, hyx⟩
      · obtain ⟨k, hk⟩ := List.getElem?_of_mem hh
        have hkl := (List.getElem?_eq_some_iff.1 hk).1
        obtain ⟨z, hz, hze, _⟩ := hat k h hk
        have g1 := List.getElem?_eq_some_iff.1 hz
        have g2 := List.getElem?_eq_some_iff.1 e
        have := List.pairwise_iff_getElem.1 hgi.srt k (S'.L.length + j) g1.1 g2.1 (by omega)
        rw [g1.2, g2.2, hyx, hze] at this
        exact this
      · have := hs.no (by rw [hil]; omega) (List.ne_nil_of_mem hd) h hh
        cases e2 : h.sm with
        | true => exact .inl rfl
        | false =>
          right
          intro k
          rw [loose_iff.2 ⟨e2, k⟩] at this; cases this

/-- what the map of all records holds -/
structure AllM (ka : List (Int × AV)) (L : List Hd) : Prop where
  nd : (ka.map (·.1)).Nodup
  at_ : ∀ h ∈ L, getM ka h.r.id = some (.agg h.r.cs)
theorem AllM.put {ka : List (Int × AV)} {S S' : Bf} {r : Item} {ds : List Int} (h : AllM ka S.L) (hm : r.id ∉ idsL S.L) (hk : Kept S r S' ds) : AllM (setM r.id (.agg r.cs) ka) S'.L ∧ ∀ d ∈ ds, ∃ x : Item, getM (setM r.id (.agg r.cs) ka) d = some (.agg x.cs) ∧ (x = r ∨ ∃ y ∈ S.L, y.r = x) ∧ ∀ h ∈ S'.L, lessR x h.r ∧ (h.sm = true ∨ ¬ h.r.pk < h.r.size) := by
  have key : ∀ x : Item, (x = r ∨ ∃ y ∈ S.L, y.r = x) → getM (setM r.id (.agg r.cs) ka) x.id = some (.agg x.cs) := by
    intro x hx
    rw [getM_set]
    rcases hx with rfl | ⟨y, hy, rfl⟩
    · rw [if_pos rfl]
    · rw [if_neg (fun e => hm (by rw [← e]; exact List.mem_map.2 ⟨y, hy, rfl⟩))]
      exact h.at_ y hy
  refine ⟨⟨(setM_keys _ _ ka h.nd).1, fun x hx => key x.r ?_⟩, fun d hd => ?_⟩
  · rcases hk.mem x hx with e | ⟨y, hy, e⟩
    · exact .inl e
    · exact .inr ⟨y, hy, e⟩
  · obtain ⟨x, e, hx, hh⟩ := hk.drp d hd
    exact ⟨x, by rw [← e]; exact key x hx, hx, hh⟩

end Go.Proofs.Ytlhchnnfgppneaa.Ab
