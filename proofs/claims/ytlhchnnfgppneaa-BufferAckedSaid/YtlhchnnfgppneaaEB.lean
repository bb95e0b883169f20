/- Inboxes: NewInbox, valid, Take, Copy. -/
import Derived.Test.YtlhchnnfgppneaaS0
import Derived.Test.YtlhchnnfgppneaaN2
namespace Go.Proofs.Ytlhchnnfgppneaa.Ab
open Go Go.RowKit Go.Proofs
set_option linter.unusedSimpArgs false
set_option linter.unusedVariables false
attribute [local irreducible] Awp wpO thenQ blockQ bodyQ ACalls stepA

def idsR (R : List Item) : List Int := R.map fun r => r.id
def findR : List Item → Int → Option Item
  | [], _ => none
  | r :: l, x => if x = r.id then some r else findR l x
def itF (R : List Item) (x : Int) : Option AV := (findR R x).map fun r => .agg r.cs
theorem findR_none {x : Int} : ∀ {R : List Item}, findR R x = none ↔ x ∉ idsR R
  | [] => by simp [findR, idsR]
  | r :: l => by
    unfold findR
    split
    · rename_i e; simp [idsR, e]
    · rename_i e
      rw [findR_none]
      simp [idsR, e]
theorem findR_at : ∀ {R : List Item} {i : Nat} {r : Item}, (idsR R).Nodup → R[i]? = some r → findR R r.id = some r
  | x :: l, 0, r, _, h => by simp at h; subst h; simp [findR]
  | x :: l, i + 1, r, hn, h => by
    have hn' := List.nodup_cons.1 hn
    have hm : r ∈ l := List.mem_of_getElem? (by simpa using h)
    have hne : r.id ≠ x.id := fun e => hn'.1 (by show x.id ∈ _; rw [← e]; exact List.mem_map.2 ⟨r, hm, rfl⟩)
    unfold findR
    rw [if_neg hne]
    exact findR_at hn'.2 (by simpa using h)

/-- where a record goes -/
def placeR : List Item → Int → Nat
  | [], _ => 0
  | h :: l, x => if h.id < x then placeR l x + 1 else 0
theorem placeR_le (x : Int) : ∀ R : List Item, placeR R x ≤ R.length
  | [] => Nat.le_refl _
  | h :: l => by
    have := placeR_le x l
    unfold placeR; split <;> simp <;> omega
theorem placeR_lt {x : Int} : ∀ {R : List Item} {i : Nat} {r : Item}, R[i]? = some r → i < placeR R x → r.id < x
  | h :: l, 0, r, hi, hp => by
    unfold placeR at hp
    split at hp
    · rename_i k; simp at hi; subst hi; exact k
    · omega
  | h :: l, i + 1, r, hi, hp => by
    unfold placeR at hp
    split at hp
    · exact placeR_lt (R := l) (i := i) (by simpa using hi) (by omega)
    · omega
theorem placeR_at {x : Int} : ∀ {R : List Item} {r : Item}, R[placeR R x]? = some r → x ≤ r.id
  | [], r, h => by simp [placeR] at h
  | a :: l, r, h => by
    unfold placeR at h
    split at h
    · exact placeR_at (R := l) (by simpa using h)
    · rename_i k; simp at h; subst h; omega
def srtR (R : List Item) : Prop := R.Pairwise fun a b => a.id < b.id
theorem srtR.ids {R : List Item} (h : srtR R) : (idsR R).Pairwise (· < ·) := List.pairwise_map.2 h
theorem srtR.nd {R : List Item} (h : srtR R) : (idsR R).Nodup := h.ids.imp fun h => by omega
theorem placeR_mem {R : List Item} {x : Int} (hs : srtR R) (hx : x ∈ idsR R) : ∃ r, R[placeR R x]? = some r ∧ r.id = x := by
  obtain ⟨r, hr, rfl⟩ := List.mem_map.1 hx
  obtain ⟨i, hi⟩ := List.getElem?_of_mem hr
  have hil := (List.getElem?_eq_some_iff.1 hi).1
  have h1 : ¬ i < placeR R r.id := fun k => by have := placeR_lt hi k; omega
  have h2 : ¬ placeR R r.id < i := fun k => by
    obtain ⟨y, hy⟩ : ∃ y, R[placeR R r.id]? = some y := ⟨_, List.getElem?_eq_getElem (by omega)⟩
    have h3 := placeR_at hy
    have g1 := List.getElem?_eq_some_iff.1 hy
    have g2 := List.getElem?_eq_some_iff.1 hi
    have := List.pairwise_iff_getElem.1 hs _ _ g1.1 g2.1 k
    rw [g1.2, g2.2] at this
    omega
  have e : i = placeR R r.id := by omega
  exact ⟨r, by rw [← e]; exact hi, rfl⟩

/-- what an inbox holds after a Take -/
def tkE (R : List Item) (r : Item) : Int := if ¬ r.ok then 2 else if r.id ∈ idsR R then 0 else if 256 ≤ R.length then 11 else 0
def tkB (R : List Item) (r : Item) : Bool := decide (r.ok ∧ r.id ∉ idsR R ∧ R.length < 256)
def tkR (R : List Item) (r : Item) : List Item := if tkB R r then R.take (placeR R r.id) ++ r :: R.drop (placeR R r.id) else R
theorem insR_mem {R : List Item} {a : Nat} {r y : Item} : y ∈ R.take a ++ r :: R.drop a ↔ y = r ∨ y ∈ R := by
  rw [List.mem_append, List.mem_cons]
  have e : y ∈ R ↔ y ∈ R.take a ∨ y ∈ R.drop a := by conv => lhs; rw [← List.take_append_drop a R]
                                                     exact List.mem_append
  rw [e]
  constructor
  · rintro (h | h | h) <;> simp [h]
  · rintro (h | h | h) <;> simp [h]
theorem tkR_srt {R : List Item} {r : Item} (hs : srtR R) : srtR (tkR R r) := by
  unfold tkR
  split
  · rename_i h
    have hb : r.ok ∧ r.id ∉ idsR R ∧ R.length < 256 := of_decide_eq_true h
    unfold srtR at *
    rw [List.pairwise_append, List.pairwise_cons]
    have hd : ∀ y ∈ R.drop (placeR R r.id), r.id < y.id := by
      intro y hy
      obtain ⟨j, hj⟩ := List.getElem?_of_mem hy
      rw [List.getElem?_drop] at hj
      have hjl := List.getElem?_eq_some_iff.1 hj
      have hjl1 := hjl.1
      obtain ⟨z, hz⟩ : ∃ z, R[placeR R r.id]? = some z := ⟨_, List.getElem?_eq_getElem (by omega)⟩
      have h1 := placeR_at hz
      have g1 := List.getElem?_eq_some_iff.1 hz
      have hne : y.id ≠ r.id := fun e => hb.2.1 (by rw [← e]; exact List.mem_map.2 ⟨y, List.mem_of_getElem? hj, rfl⟩)
      rcases Nat.eq_zero_or_pos j with h0 | h0
      · subst h0
        rw [Nat.add_zero, hz] at hj; cases hj; omega
      · have := List.pairwise_iff_getElem.1 hs _ _ g1.1 hjl.1 (by omega)
        rw [g1.2, hjl.2] at this; omega
    refine ⟨hs.sublist (List.take_sublist ..), ⟨hd, hs.sublist (List.drop_sublist ..)⟩, fun x hx y hy => ?_⟩
    obtain ⟨i, hi⟩ := List.getElem?_of_mem hx
    rw [List.getElem?_take] at hi
    split at hi
    · rename_i hip
      have h1 := placeR_lt hi hip
      rcases List.mem_cons.1 hy with rfl | hy
      · exact h1
      · have := hd y hy; omega
    · cases hi
  · exact hs
theorem tkR_len (R : List Item) (r : Item) : (tkR R r).length ≤ R.length + 1 := by
  unfold tkR
  split
  · have := placeR_le r.id R
    simp; omega
  · omega
theorem tkR_mem {R : List Item} {r y : Item} (h : y ∈ tkR R r) : y ∈ R ∨ (y = r ∧ r.ok) := by
  unfold tkR at h
  split at h
  · rename_i hb
    rcases insR_mem.1 h with rfl | h
    · exact .inr ⟨rfl, (of_decide_eq_true hb : _ ∧ _).1⟩
    · exact .inl h
  · exact .inl h
theorem tkR_find {R : List Item} {r : Item} (hs : srtR R) (hb : tkB R r = true) (y : Int) : findR (tkR R r) y = if y = r.id then some r else findR R y := by
  have hs2 := tkR_srt (r := r) hs
  have hR : tkR R r = R.take (placeR R r.id) ++ r :: R.drop (placeR R r.id) := by unfold tkR; rw [if_pos hb]
  have hmem : ∀ z, z ∈ tkR R r ↔ z = r ∨ z ∈ R := fun z => by rw [hR]; exact insR_mem
  by_cases e : y = r.id
  · rw [if_pos e, e]
    obtain ⟨i, hi⟩ := List.getElem?_of_mem ((hmem r).2 (.inl rfl))
    exact findR_at hs2.nd hi
  · rw [if_neg e]
    cases h : findR R y with
    | none =>
      rw [findR_none] at h ⊢
      intro k
      obtain ⟨z, hz, hzy⟩ := List.mem_map.1 k
      rcases (hmem z).1 hz with rfl | hz
      · exact e hzy.symm
      · exact h (List.mem_map.2 ⟨z, hz, hzy⟩)
    | some z =>
      have hz : y ∈ idsR R := Classical.byContradiction fun k => by rw [findR_none.2 k] at h; cases h
      obtain ⟨z', hz', rfl⟩ := List.mem_map.1 hz
      obtain ⟨i, hi⟩ := List.getElem?_of_mem hz'
      rw [findR_at hs.nd hi] at h
      cases h
      obtain ⟨j, hj⟩ := List.getElem?_of_mem ((hmem z).2 (.inr hz'))
      exact findR_at hs2.nd hj

theorem mapKeys {ks : List (Int × AV)} {R : List Item} (h : MapIs ks (itF R)) (hs : srtR R) : (ks.map (·.1)).Perm (idsR R) := by
  rw [List.perm_ext_iff_of_nodup h.nd hs.nd]
  intro x
  have h1 := h.get x
  unfold itF at h1
  have h2 : getM ks x = none ↔ x ∉ ks.map (·.1) := getM_none
  have h3 := findR_none (x := x) (R := R)
  constructor
  · intro hx
    refine Classical.byContradiction fun k => ?_
    rw [h3.2 k] at h1
    exact h2.1 h1 hx
  · intro hx
    refine Classical.byContradiction fun k => ?_
    rw [h2.2 k] at h1
    cases e : findR R x with
    | none => exact h3.1 e hx
    | some _ => rw [e] at h1; cases h1
theorem mapLen {ks : List (Int × AV)} {R : List Item} (h : MapIs ks (itF R)) (hs : srtR R) : ks.length = R.length := by
  have := (mapKeys h hs).length_eq
  simpa [idsR] using this

set_option maxRecDepth 8000 in
theorem newInbox (H : Hp) : CallsTo Try.prog 38 [] H (.rptr [.mp H.length] 0) (H ++ [.amap []]) := by
  refine ACalls.of_body Try.func38 rfl (by kernel_rfl) (by rw [Try.ntmps38]; simp) ?_; rw [Try.ntmps38]
  repeat' (first | refine spD (fun _ => ?_) (fun _ => ?_) | refine spF (fun _ => ?_) (fun _ => ?_) | (apply gT; (exact rfl)) | (apply off; (exact rfl); (exact rfl)) | (apply condT; (exact rfl)) | (apply condF; (exact rfl)) | ((first | (apply stp0; (exact rfl); (exact rfl)) | (apply stpN0; (exact rfl)) | apply gT | apply condT); (first | (focus (simp only [go_sem, ↓reduceIte, simprocAttr] <;> rfl)) | exact rfl); (first | (fail_if_success (show okD _ _ _ _ _ _ _ _ _)) | (first | exact okT | exact okN | exact okE rfl))) | refine thenQ_n ?_ | refine thenQ_r ?_ | refine thenQ_e ?_ | refine blockQ_n ?_ | refine blockQ_r ?_ | refine blockQ_e ?_ | (apply blockQ_o; (exact rfl)) | refine Awp.seq ?_ | refine Awp.skip ?_ | refine Awp.block ?_ | refine reg (fun s => false) ?_ | (apply drwE mixed (fun s => false); (kernel_rfl)) | refine fin ?_ | refine Awp.ret ?_ | refine Awp.exit ?_ | ((first | (apply off; (exact rfl)) | apply condF); (first | (focus (simp only [go_sem, ↓reduceIte, simprocAttr] <;> rfl)) | exact rfl)))
  all_goals first | contradiction | (exfalso; omega) | skip
  exact bodyQ_mk (vs := [.rptr [.mp H.length] 0]) (.inr rfl) (by rw [Try.results38]; simp only [go_sem, ↓reduceIte, simprocAttr]) (Vs.refl _ _ _) ⟨rfl, rfl⟩
set_option maxRecDepth 8000 in
theorem validX (H : Hp) (m : Nat) : CallsTo Try.prog 74 [.rptr [.mp m] 0] H (bv true) H := by
  refine ACalls.of_body Try.func74 rfl (by kernel_rfl) (by rw [Try.ntmps74]; simp) ?_; rw [Try.ntmps74]
  repeat' (first | refine spD (fun _ => ?_) (fun _ => ?_) | refine spF (fun _ => ?_) (fun _ => ?_) | (apply gT; (exact rfl)) | (apply off; (exact rfl); (exact rfl)) | (apply condT; (exact rfl)) | (apply condF; (exact rfl)) | ((first | (apply stp0; (exact rfl); (exact rfl)) | (apply stpN0; (exact rfl)) | apply gT | apply condT | ((first | apply bodyQ_d0 | apply bodyQ_d1 | apply bodyQ_d2 | apply bodyQ_d3 | apply bodyQ_d4); (exact .inr rfl); (rw [Try.results74]))); (first | (focus (simp only [go_sem, ↓reduceIte, simprocAttr] <;> rfl)) | exact rfl); (first | (fail_if_success (show okD _ _ _ _ _ _ _ _ _)) | (first | exact okT | exact okN | exact okE rfl)); (first | (fail_if_success (show Bel _ _)) | (focus first | exact .val _ | (simp [oneOf, Bel_iff_tup, Bel_iff_agg, Bel_iff_rsl, Bel_iff_fn, Bel_iff_rptr, Bel_val]; done)))) | refine thenQ_n ?_ | refine thenQ_r ?_ | refine thenQ_e ?_ | refine blockQ_n ?_ | refine blockQ_r ?_ | refine blockQ_e ?_ | (apply blockQ_o; (exact rfl)) | refine Awp.seq ?_ | refine Awp.skip ?_ | refine Awp.block ?_ | refine reg (fun s => false) ?_ | (apply drwE mixed (fun s => false); (kernel_rfl)) | refine fin ?_ | refine Awp.ret ?_ | refine Awp.exit ?_ | ((first | (apply off; (exact rfl)) | apply condF); (first | (focus (simp only [go_sem, ↓reduceIte, simprocAttr] <;> rfl)) | exact rfl)))
  all_goals first | rfl | contradiction | (exfalso; omega) | skip
set_option maxRecDepth 8000 in
theorem copyX {H : Hp} {m : Nat} {es : List (AV × AV)} (hm : H[m]? = some (.amap es)) : CallsTo Try.prog 39 [.rptr [.mp m] 0] H (.rptr [.mp H.length] 0) (H ++ [.amap es]) := by
  have hv := validX H m
  have hc := clone71_ok hm
  refine ACalls.of_body Try.func39 rfl (by kernel_rfl) (by rw [Try.ntmps39]; simp) ?_; rw [Try.ntmps39]
  repeat' (first | refine spD (fun _ => ?_) (fun _ => ?_) | refine spF (fun _ => ?_) (fun _ => ?_) | (apply gT; (exact rfl)) | (apply off; (exact rfl); (exact rfl)) | (apply condT; (exact rfl)) | (apply condF; (exact rfl)) | ((first | (apply stp0; (exact rfl); (exact rfl)) | (apply stpN0; (exact rfl)) | apply gT | apply condT); (first | (focus (simp only [go_sem, ↓reduceIte, simprocAttr] <;> rfl)) | exact rfl); (first | (fail_if_success (show okD _ _ _ _ _ _ _ _ _)) | (first | exact okT | exact okN | exact okE rfl))) | (apply calTo0; (exact rfl); (iterate 2 (simp only [go_sem, ↓reduceIte, simprocAttr]; rfl)); (first | exact hv | exact hc); (first | exact okT | exact okN | exact okE rfl)) | refine thenQ_n ?_ | refine thenQ_r ?_ | refine thenQ_e ?_ | refine blockQ_n ?_ | refine blockQ_r ?_ | refine blockQ_e ?_ | (apply blockQ_o; (exact rfl)) | refine Awp.seq ?_ | refine Awp.skip ?_ | refine Awp.block ?_ | refine reg (fun s => false) ?_ | (apply drwE mixed (fun s => false); (kernel_rfl)) | refine fin ?_ | refine Awp.ret ?_ | refine Awp.exit ?_ | ((first | (apply off; (exact rfl)) | apply condF); (first | (focus (simp only [go_sem, ↓reduceIte, simprocAttr] <;> rfl)) | exact rfl)))
  all_goals first | contradiction | (exfalso; omega) | skip
  exact bodyQ_mk (vs := [.rptr [.mp H.length] 0]) (.inr rfl) (by rw [Try.results39]; simp only [go_sem, ↓reduceIte, simprocAttr]) (Vs.refl _ _ _) ⟨rfl, rfl⟩

end Go.Proofs.Ytlhchnnfgppneaa.Ab
