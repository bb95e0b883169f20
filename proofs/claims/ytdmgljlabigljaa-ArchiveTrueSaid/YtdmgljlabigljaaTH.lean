/- Archive: a drawn region told by the values of its slots; keys in order; the table; Add, plain. -/
import Derived.Test.YtdmgljlabigljaaTG
import Derived.Test.YtdmgljlabigljaaS5
namespace Go.Proofs.Ytdmgljlabigljaa.Ab
open Go Go.RowKit Go.Proofs
set_option linter.unusedSimpArgs false
set_option linter.unusedVariables false
attribute [local irreducible] Awp wpO thenQ blockQ bodyQ ACalls stepA

/-- which operations of a region (999: none) hand a value to a slot -/
def okS (Sl : List Nat) (k : Nat) : Bool := decide (k < Sl.length) && Sl.getD k 0 != 999
/-- what is so in the middle of a drawn region: the slots that stay, the slots that have a value, the heap -/
structure InvV (Sl : List Nat) (V : Nat → AV) (kept : Nat → Bool) (T0 : Env) (X : (Nat → Bool) → Hp → Prop) (L : Nat → Bool) (T : Env) (K : Hp) : Prop where
  keep : ∀ s, kept s = true → T s = T0 s
  tab : ∀ k, okS Sl k = true → L k = true → T (Sl.getD k 0) = V k
  ext : X L K
theorem InvV.start {Sl : List Nat} {V : Nat → AV} {kept : Nat → Bool} {T0 : Env} {X : (Nat → Bool) → Hp → Prop} {K : Hp} (h : X (fun _ => false) K) : InvV Sl V kept T0 X (fun _ => false) T0 K := ⟨fun _ _ => rfl, fun _ _ h => absurd h (by simp), h⟩
theorem InvV.put {Sl : List Nat} {V : Nat → AV} {kept : Nat → Bool} {T0 : Env} {X : (Nat → Bool) → Hp → Prop} {L : Nat → Bool} {T : Env} {K K' : Hp} (h : InvV Sl V kept T0 X L T K) {k : Nat}
    (hd : ∀ j, j < Sl.length → j ≠ k → Sl.getD j 0 ≠ 999 → Sl.getD j 0 ≠ Sl.getD k 0) (hkept : kept (Sl.getD k 0) = false) (hX : X (setL L k) K') : InvV Sl V kept T0 X (setL L k) (upd T (Sl.getD k 0) (V k)) K' := by
  refine ⟨fun s hs => ?_, fun j hj hL => ?_, hX⟩
  · have : s ≠ Sl.getD k 0 := fun e => by rw [e, hkept] at hs; cases hs
    simp only [upd, this, if_false]; exact h.keep s hs
  · by_cases e : j = k
    · subst e; simp [upd]
    · unfold okS at hj
      rw [Bool.and_eq_true, decide_eq_true_eq] at hj
      have hne := hd j hj.1 e (by simpa using hj.2)
      simp only [upd, hne, if_false]
      exact h.tab j (by unfold okS; rw [Bool.and_eq_true, decide_eq_true_eq]; exact hj) (by simpa [setL, e] using hL)
theorem InvV.non {Sl : List Nat} {V : Nat → AV} {kept : Nat → Bool} {T0 : Env} {X : (Nat → Bool) → Hp → Prop} {L : Nat → Bool} {T : Env} {K K' : Hp} (h : InvV Sl V kept T0 X L T K) {k : Nat} (hk : Sl.getD k 0 = 999) (hX : X (setL L k) K') : InvV Sl V kept T0 X (setL L k) T K' := by
  refine ⟨h.keep, fun j hj hL => h.tab j hj ?_, hX⟩
  have : j ≠ k := fun e => by
    subst e
    unfold okS at hj
    rw [hk] at hj
    simp at hj
  simpa [setL, this] using hL

/-! ### keys in order -/
def ltK (a b : K3) : Prop := a.1 < b.1 ∨ (a.1 = b.1 ∧ (a.2.1 < b.2.1 ∨ (a.2.1 = b.2.1 ∧ a.2.2 < b.2.2)))
instance (a b : K3) : Decidable (ltK a b) := by unfold ltK; infer_instance
theorem ltK_irr (a : K3) : ¬ ltK a a := by unfold ltK; omega
theorem ltK_tr {a b c : K3} (h : ltK a b) (k : ltK b c) : ltK a c := by unfold ltK at *; omega
theorem ltK_tot {a b : K3} (h : a ≠ b) (k : ¬ ltK a b) : ltK b a := by
  have : a.1 ≠ b.1 ∨ a.2.1 ≠ b.2.1 ∨ a.2.2 ≠ b.2.2 := by
    refine Classical.byContradiction fun hc => h ?_
    exact Prod.ext (by omega) (Prod.ext (by omega) (by omega))
  unfold ltK at *
  omega
def Srt (L : List Ent) : Prop := L.Pairwise fun a b => ltK a.key b.key
def insE (e : Ent) : List Ent → List Ent
  | [] => [e]
  | a :: l => if ltK e.key a.key then e :: a :: l else a :: insE e l
theorem insE_perm (e : Ent) : ∀ L, (insE e L).Perm (L ++ [e])
  | [] => .refl _
  | a :: l => by
    unfold insE
    split
    · exact (List.perm_append_comm (l₁ := [e]) (l₂ := a :: l))
    · exact (insE_perm e l).cons a
theorem insE_mem (e x : Ent) (L : List Ent) : x ∈ insE e L ↔ x = e ∨ x ∈ L := by
  rw [(insE_perm e L).mem_iff, List.mem_append, List.mem_singleton]; exact or_comm
theorem insE_srt {e : Ent} : ∀ {L : List Ent}, Srt L → (∀ x ∈ L, x.key ≠ e.key) → Srt (insE e L)
  | [], _, _ => List.pairwise_singleton _ _
  | a :: l, h, hne => by
    have hc := List.pairwise_cons.1 h
    unfold insE
    split
    · rename_i hlt
      refine List.pairwise_cons.2 ⟨fun x hx => ?_, h⟩
      rcases List.mem_cons.1 hx with rfl | hx
      · exact hlt
      · exact ltK_tr hlt (hc.1 x hx)
    · rename_i hlt
      refine List.pairwise_cons.2 ⟨fun x hx => ?_, insE_srt hc.2 fun x hx => hne x (by simp [hx])⟩
      rcases (insE_mem e x l).1 hx with rfl | hx
      · exact ltK_tot (fun h => hne a (by simp) h.symm) hlt
      · exact hc.1 x hx
def findE (k : K3) (L : List Ent) : Option Ent := L.find? fun e => e.key == k
theorem findE_some {k : K3} {L : List Ent} {e : Ent} (h : findE k L = some e) : e ∈ L ∧ e.key = k := by
  have h1 := List.find?_some h
  exact ⟨List.mem_of_find?_eq_some h, by simpa using h1⟩
theorem findE_none {k : K3} {L : List Ent} (h : findE k L = none) : ∀ x ∈ L, x.key ≠ k := fun x hx => by
  have := List.find?_eq_none.1 h x hx
  simpa using this
theorem Srt.uniq {L : List Ent} (h : Srt L) {a b : Ent} (ha : a ∈ L) (hb : b ∈ L) (hk : a.key = b.key) : a = b := by
  obtain ⟨i, h1, h2⟩ := List.mem_iff_getElem.1 ha
  obtain ⟨j, h3, h4⟩ := List.mem_iff_getElem.1 hb
  rcases Nat.lt_trichotomy i j with hlt | heq | hgt
  · have := List.pairwise_iff_getElem.1 h i j h1 h3 hlt
    rw [h2, h4, hk] at this
    exact absurd this (ltK_irr _)
  · subst heq; rw [← h2, ← h4]
  · have := List.pairwise_iff_getElem.1 h j i h3 h1 hgt
    rw [h2, h4, hk] at this
    exact absurd this (ltK_irr _)

/-! ### the table -/
def tabE (L : List Ent) : List (K3 × Ent) := L.map fun e => (e.key, e)
/-- the table has just these entries -/
def TabP (T : List (K3 × Ent)) (L : List Ent) : Prop := T.Perm (tabE L)
theorem lookK_find {k : K3} : ∀ (T : List (K3 × Ent)) (r : Option Ent), (∀ p ∈ T, p.1 = p.2.key) → (∀ p ∈ T, ∀ q ∈ T, p.1 = q.1 → p = q) → lookK k T = r → (∀ e, r = some e ↔ (k, e) ∈ T)
  | [], r, _, _, h => fun e => by unfold lookK at h; rw [← h]; simp
  | p :: T, r, h1, h2, h => fun e => by
    unfold lookK at h
    split at h
    · rename_i hk
      rw [← h]
      constructor
      · intro h; cases h; rw [← hk]; simp
      · intro h
        have := h2 p (by simp) _ h (by rw [hk])
        rw [this]
    · rename_i hk
      rw [lookK_find T r (fun q hq => h1 q (by simp [hq])) (fun a ha b hb => h2 a (by simp [ha]) b (by simp [hb])) h e]
      constructor
      · intro h; simp [h]
      · intro h
        rcases List.mem_cons.1 h with h | h
        · rw [← h] at hk; exact absurd rfl hk
        · exact h
theorem TabP.look {T : List (K3 × Ent)} {L : List Ent} (h : TabP T L) (hs : Srt L) (k : K3) : lookK k T = findE k L := by
  have hm : ∀ p, p ∈ T ↔ p.2 ∈ L ∧ p.1 = p.2.key := fun p => by
    rw [h.mem_iff]
    unfold tabE
    rw [List.mem_map]
    constructor
    · rintro ⟨e, he, rfl⟩; exact ⟨he, rfl⟩
    · rintro ⟨h1, h2⟩; exact ⟨p.2, h1, Prod.ext h2.symm rfl⟩
  have key := lookK_find T (lookK k T) (fun p hp => ((hm p).1 hp).2) (fun p hp q hq e => by
    obtain ⟨p1, p2⟩ := (hm p).1 hp
    obtain ⟨q1, q2⟩ := (hm q).1 hq
    exact Prod.ext e (hs.uniq p1 q1 (by rw [← p2, ← q2, e]))) rfl
  cases hf : findE k L with
  | some e =>
    obtain ⟨f1, f2⟩ := findE_some hf
    exact (key e).2 ((hm _).2 ⟨f1, f2.symm⟩)
  | none =>
    cases hl : lookK k T with
    | none => rfl
    | some e =>
      have := (hm _).1 ((key e).1 hl)
      exact absurd this.2.symm (findE_none hf e this.1)
theorem TabP.add {T : List (K3 × Ent)} {L : List Ent} (h : TabP T L) (hs : Srt L) {e : Ent} (hf : findE e.key L = none) : TabP (updK e.key e T) (insE e L) := by
  rw [updK_none (by rw [h.look hs]; exact hf)]
  unfold TabP tabE at *
  refine (h.append_right _).trans ?_
  have := ((insE_perm e L).symm.map fun e => (e.key, e))
  rw [List.map_append] at this
  exact this
theorem TabP.len {T : List (K3 × Ent)} {L : List Ent} (h : TabP T L) : T.length = L.length := by rw [h.length_eq]; simp [tabE]

/-- an archive with these series and entries -/
structure Arc (H : Hp) (p b : Nat) (S : List Ser) (L : List Ent) : Prop where
  hp : H[p]? = some (.cells [[.rsl (sers S) false, .mp b]] 58)
  tab : ∃ T, H[b]? = some (.amap (tabA k3A Ent.av T)) ∧ TabP T L
  srt : Srt L
theorem Arc.keep {H K : Hp} {p b : Nat} {S : List Ser} {L : List Ent} (h : Arc H p b S L) (h1 : K[p]? = H[p]?) (h2 : K[b]? = H[b]?) : Arc K p b S L := ⟨by rw [h1]; exact h.hp, by rw [h2]; exact h.tab, h.srt⟩
theorem Arc.grow {H K : Hp} {p b : Nat} {S : List Ser} {L : List Ent} (h : Arc H p b S L) (hG : Grow H K) : Arc K p b S L := by
  obtain ⟨T, h1, h2⟩ := h.tab
  exact h.keep (hG.old p (List.getElem?_eq_some_iff.1 h.hp).1) (hG.old b (List.getElem?_eq_some_iff.1 h1).1)

/-- Add, plain: its code, and the entries then -/
def addC (S : List Ser) (L : List Ent) (e : Ent) : Int :=
  if accB S e = true then (match findE e.key L with
    | some o => if o = e then 0 else 12
    | none => if L.length = 1024 then 11 else 0) else 2
def addL (S : List Ser) (L : List Ent) (e : Ent) : List Ent :=
  if accB S e = true then (match findE e.key L with
    | some _ => L
    | none => if L.length = 1024 then L else insE e L) else L

theorem entBeq (x y : Ent) : (x.series == y.series && (x.time == y.time && (x.version == y.version && (x.arrived == y.arrived && (x.owner == y.owner && (x.free == y.free && ((x.lo == y.lo && (x.hi == y.hi && true)) && (x.cause == y.cause && true)))))))) = decide (x = y) := by
  by_cases h : x = y
  · subst h
    simp [byteArr_beq]
  · rw [decide_eq_false h, Bool.eq_false_iff]
    intro hc
    simp only [Bool.and_eq_true, beq_iff_eq, Bool.and_true] at hc
    obtain ⟨a1, a2, a3, a4, a5, a6, ⟨a7, a8⟩, a9⟩ := hc
    have a9' : x.cause = y.cause := by
      have := byteArr_dec x.cause y.cause
      rw [a9] at this
      have := @of_decide_eq_true _ (Classical.propDecidable _) this.symm
      injection this
    apply h
    cases x; cases y
    simp only at *
    subst a1; subst a2; subst a3; subst a4; subst a5; subst a6; subst a7; subst a8; subst a9'
    rfl

end Go.Proofs.Ytdmgljlabigljaa.Ab
