/- Cables: places and segments of a known distance, plain. -/
import Derived.Test.YtphfdbmbdaninaaUC
import Derived.Test.YtphfdbmbdaninaaU9
namespace Go.Proofs.Ytphfdbmbdaninaa.Ab
open Go Go.RowKit Go.Proofs
set_option linter.unusedSimpArgs false
set_option linter.unusedVariables false
attribute [local irreducible] Awp wpO thenQ blockQ bodyQ ACalls stepA

theorem maxL_rev {v : List Int} : maxL v.reverse = maxL v := by
  by_cases h0 : 0 < v.length
  · have h1 : 0 < v.reverse.length := by simpa using h0
    have a : ∀ b, b < maxL v.reverse ↔ b < maxL v := fun b => by rw [maxL_gt h0, maxL_gt h1]; simp
    have a1 := a (maxL v)
    have a2 := a (maxL v.reverse)
    omega
  · have : v = [] := List.eq_nil_of_length_eq_zero (by omega)
    subst this; rfl
theorem minL_rev {v : List Int} : minL v.reverse = minL v := by
  by_cases h0 : 0 < v.length
  · have h1 : 0 < v.reverse.length := by simpa using h0
    have a : ∀ b, minL v.reverse < b ↔ minL v < b := fun b => by rw [minL_lt h0, minL_lt h1]; simp
    have a1 := a (minL v)
    have a2 := a (minL v.reverse)
    omega
  · have : v = [] := List.eq_nil_of_length_eq_zero (by omega)
    subst this; rfl
theorem maxL_drop {v : List Int} (h : 1 < v.length) : maxL (v.drop 1) ≤ maxL v := by
  have h1 : 0 < (v.drop 1).length := by simp; omega
  by_cases hc : maxL v < maxL (v.drop 1)
  · obtain ⟨y, hy, hl⟩ := (maxL_gt h1).1 hc
    have := (maxL_gt (b := maxL v) (v := v) (by omega)).2 ⟨y, List.mem_of_mem_drop hy, hl⟩
    omega
  · omega
theorem minL_drop {v : List Int} (h : 1 < v.length) : minL v ≤ minL (v.drop 1) := by
  have h1 : 0 < (v.drop 1).length := by simp; omega
  by_cases hc : minL (v.drop 1) < minL v
  · obtain ⟨y, hy, hl⟩ := (minL_lt h1).1 hc
    have := (minL_lt (b := minL v) (v := v) (by omega)).2 ⟨y, List.mem_of_mem_drop hy, hl⟩
    omega
  · omega

/-- all measurements are right -/
def Right (l : List Ms) (m : Int) : Prop := ∀ x ∈ l, (distE x).2 = 0 ∧ ¬ (distE x).1.bad = true ∧ (distE x).1.lo ≤ m ∧ m ≤ (distE x).1.hi

theorem Right.loc {l : List Ms} {m : Int} (h : Right l m) (h0 : 0 < l.length) (h32 : l.length ≤ 32) : locE l = (locS l l.length, 0) ∧ (locS l l.length).lo ≤ m ∧ m ≤ (locS l l.length).hi ∧ ¬ (locS l l.length).bad = true := by
  have e1 : (los l).take l.length = los l := List.take_of_length_le (by simp [los])
  have e2 : (his l).take l.length = his l := List.take_of_length_le (by simp [his])
  have l0 : 0 < (los l).length := by simpa [los] using h0
  have l1 : 0 < (his l).length := by simpa [his] using h0
  have p1 : maxL (los l) ≤ m := by
    by_cases hc : m < maxL (los l)
    · obtain ⟨y, hy, hl⟩ := (maxL_gt l0).1 hc
      obtain ⟨x, hx, rfl⟩ := List.mem_map.1 hy
      have := (h x hx).2.2.1
      omega
    · omega
  have p2 : m ≤ minL (his l) := by
    by_cases hc : minL (his l) < m
    · obtain ⟨y, hy, hl⟩ := (minL_lt l1).1 hc
      obtain ⟨x, hx, rfl⟩ := List.mem_map.1 hy
      have := (h x hx).2.2.2
      omega
    · omega
  have hlo : (locS l l.length).lo = maxL (los l) := by show maxL _ = _; rw [e1]
  have hhi : (locS l l.length).hi = minL (his l) := by show minL _ = _; rw [e2]
  obtain ⟨x, hx⟩ := nth h0
  have hxm := List.mem_of_getElem? hx
  have hr := h x hxm
  rw [Sp.bad_iff] at hr
  have p3 : (distE x).1.lo ≤ maxL (los l) := by
    by_cases hc : maxL (los l) < (distE x).1.lo
    · have := (maxL_gt (b := maxL (los l)) l0).2 ⟨_, List.mem_map.2 ⟨x, hxm, rfl⟩, hc⟩
      omega
    · omega
  have p4 : minL (his l) ≤ (distE x).1.hi := by
    by_cases hc : (distE x).1.hi < minL (his l)
    · have := (minL_lt (b := minL (his l)) l1).2 ⟨_, List.mem_map.2 ⟨x, hxm, rfl⟩, hc⟩
      omega
    · omega
  refine ⟨?_, by omega, by omega, ?_⟩
  · unfold locE
    have hfe : firstE (ers l) = 0 := firstE_no fun j hj => by
      obtain ⟨y, hy⟩ := nth (show j < l.length by simpa [ers] using hj)
      have := (h y (List.mem_of_getElem? hy)).1
      simp [ers, hy, this]
    rw [if_neg (by omega), if_neg (by omega), if_neg (fun n => n hfe), if_neg (by omega)]
  · rw [Sp.bad_iff, hlo, hhi]; omega

theorem locS_rev (l : List Ms) : locS l.reverse l.reverse.length = locS l l.length := by
  have e1 : ∀ l : List Ms, (los l).take l.length = los l := fun l => List.take_of_length_le (by simp [los])
  have e2 : ∀ l : List Ms, (his l).take l.length = his l := fun l => List.take_of_length_le (by simp [his])
  unfold locS
  rw [e1, e2, e1, e2]
  have r1 : los l.reverse = (los l).reverse := by simp [los]
  have r2 : his l.reverse = (his l).reverse := by simp [his]
  rw [r1, r2, maxL_rev, minL_rev]
theorem locS_drop {l : List Ms} (h : 1 < l.length) : (locS (l.drop 1) (l.drop 1).length).lo ≤ (locS l l.length).lo ∧ (locS l l.length).hi ≤ (locS (l.drop 1) (l.drop 1).length).hi := by
  have e1 : ∀ l : List Ms, (los l).take l.length = los l := fun l => List.take_of_length_le (by simp [los])
  have e2 : ∀ l : List Ms, (his l).take l.length = his l := fun l => List.take_of_length_le (by simp [his])
  unfold locS
  rw [e1, e2, e1, e2]
  have r1 : los (l.drop 1) = (los l).drop 1 := by simp [los, List.map_drop]
  have r2 : his (l.drop 1) = (his l).drop 1 := by simp [his, List.map_drop]
  rw [r1, r2]
  exact ⟨maxL_drop (by simpa [los] using h), minL_drop (by simpa [his] using h)⟩

/-- a segment that holds the distance is named -/
theorem segN_has {v : List Int} {p : Sp} {r : List Nat} {j x : Nat} (hx : r[j]? = some x) (h : (segN v p (r.take j)).1 ≤ p.hi ∧ p.lo ≤ (segN v p (r.take j)).1 + lnA v x) : x ∈ (segN v p r).2 := by
  have mono : ∀ (t : List Nat) (s : Int × List Nat) (y : Nat), y ∈ s.2 → y ∈ (t.foldl (segS v p) s).2 := by
    intro t
    induction t with
    | nil => intro s y hy; exact hy
    | cons a t ih =>
      intro s y hy
      refine ih _ y ?_
      unfold segS
      exact List.mem_append_left _ hy
  have e : r = r.take (j + 1) ++ r.drop (j + 1) := (List.take_append_drop _ _).symm
  have h1 : x ∈ (segN v p (r.take (j + 1))).2 := by
    rw [segN_take hx]
    unfold segS
    rw [if_pos h]
    simp
  have : segN v p r = (r.drop (j + 1)).foldl (segS v p) (segN v p (r.take (j + 1))) := by
    conv => lhs; rw [e]
    unfold segN
    rw [List.foldl_append]
  rw [this]
  exact mono _ _ _ h1

theorem route_pos {c : Cb} (hg : c.good) {k x : Nat} (hk : k < c.l.length) (hx : x ∈ route c.l k) : 0 < x ∧ x < c.l.length := by
  obtain ⟨j, hj, e⟩ := List.getElem_of_mem hx
  obtain ⟨h1, h2⟩ := route_at (List.getElem?_eq_some_iff.2 ⟨hj, e⟩)
  have h3 := pth_le c.l k x (List.mem_of_getElem? h2)
  refine ⟨?_, by omega⟩
  have h4 := pth_step c.l k _ _ h2
  by_cases hc : 0 ≤ parN c.l x ∧ (parN c.l x).toNat < x
  · omega
  · rw [if_neg hc] at h4
    have := List.getElem?_eq_none_iff.1 h4
    omega

/-- the lengths of the law -/
def lnP (v : List Int) (n i : Nat) : List Int := (List.range n).map fun j => if 1 ≤ j ∧ j < i then 10 * atU v j else 0
theorem lnP_len (v : List Int) (n i : Nat) : (lnP v n i).length = n := by simp [lnP]
theorem lnP_zero (v : List Int) (n : Nat) : lnP v n 1 = List.replicate n 0 := by
  refine List.ext_getElem (by simp [lnP]) fun j h1 h2 => ?_
  simp only [lnP, List.getElem_map, List.getElem_range, List.getElem_replicate]
  rw [if_neg (by omega)]
theorem lnP_succ (v : List Int) {n i : Nat} (h0 : 1 ≤ i) (hi : i < n) : (ints (lnP v n i)).set i [iv (10 * atU v i)] = ints (lnP v n (i + 1)) := by
  have : (lnP v n i).set i (10 * atU v i) = lnP v n (i + 1) := by
    refine List.ext_getElem (by simp [lnP]) fun j h1 h2 => ?_
    by_cases e : j = i
    · subst e
      rw [List.getElem_set_self]
      simp only [lnP, List.getElem_map, List.getElem_range]
      rw [if_pos (by omega)]
    · rw [List.getElem_set_ne (by omega)]
      simp only [lnP, List.getElem_map, List.getElem_range]
      by_cases h : 1 ≤ j ∧ j < i
      · rw [if_pos h, if_pos (by omega)]
      · rw [if_neg h, if_neg (by omega)]
  rw [← this]; simp [ints, List.map_set]
theorem lnP_ok {v : List Int} (hv : ∀ x ∈ v, (Lit.int .u8 x).wf = true) (n i : Nat) : lnOk (lnP v n i) := by
  constructor
  · cases n with
    | zero => rfl
    | succ n => simp [lnP, List.getD_eq_getElem?_getD]
  · intro x hx
    obtain ⟨j, _, rfl⟩ := List.mem_map.1 hx
    have := atU_in hv j
    split <;> omega

end Go.Proofs.Ytphfdbmbdaninaa.Ab
