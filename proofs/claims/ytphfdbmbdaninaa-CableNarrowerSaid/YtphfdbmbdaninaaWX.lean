/- Cables: numbers of spans by parts; what truly flows. -/
import Derived.Test.YtphfdbmbdaninaaWW
namespace Go.Proofs.Ytphfdbmbdaninaa.Ab
open Go Go.RowKit Go.Proofs
set_option linter.unusedSimpArgs false
set_option linter.unusedVariables false
attribute [local irreducible] Awp wpO thenQ blockQ bodyQ ACalls stepA

def u8 (n : Int) : AV := .val (.int .u8 n)
def atU (v : List Int) (i : Nat) : Int := v.getD i 0
theorem atU_in {v : List Int} (h : ∀ x ∈ v, (Lit.int .u8 x).wf = true) (i : Nat) : 0 ≤ atU v i ∧ atU v i ≤ 255 := by
  unfold atU
  rw [List.getD_eq_getElem?_getD]
  cases hx : v[i]? with
  | none => simp
  | some x => exact wf8 (h x (List.mem_of_getElem? hx))

theorem at_ok (H : Hp) (v : List Int) (ex : Bool) (i : Nat) : CallsTo Try.prog 22 [.rsl (kints .u8 v) ex, iv i] H (u8 (atU v i)) H := by
  have hvl := kints_len .u8 v
  by_cases hlt : i < v.length
  · obtain ⟨a, ha⟩ := nth hlt
    have hac : (kints .u8 v)[i]? = some [.val (.int .u8 a)] := nthMap (fun x => [AV.val (.int .u8 x)]) ha
    have e : atU v i = a := by simp [atU, ha]
    rw [e]
    refine ACalls.of_body Try.func22 rfl (by kernel_rfl) (by rw [Try.ntmps22]; simp) ?_; rw [Try.ntmps22]
    repeat' (first | refine spD (fun _ => ?_) (fun _ => ?_) | refine spF (fun _ => ?_) (fun _ => ?_) | (apply gT; (exact rfl)) | (apply off; (exact rfl); (exact rfl)) | (apply condT; (exact rfl)) | (apply condF; (exact rfl)) | ((first | (apply stp0; (exact rfl); (exact rfl)) | (apply stpN0; (exact rfl)) | apply gT | apply condT | ((first | apply bodyQ_d0 | apply bodyQ_d1 | apply bodyQ_d2 | apply bodyQ_d3 | apply bodyQ_d4); (exact .inr rfl); (rw [Try.results22]))); (first | (focus (simp only [go_sem, ↓reduceIte, Nat.reduceEqDiff, Nat.reduceBEq, Nat.reduceAdd, Nat.reduceLeDiff, Nat.reduceMul, Nat.reduceLT, Int.reduceToNat, reduceCtorEq, Int.reduceBEq, Int.reduceBNe, Int.reduceLT, Int.reduceLE, Int.reduceGT, Int.reduceGE, hvl, hac] <;> rfl)) | exact rfl); (first | (fail_if_success (show okD _ _ _ _ _ _ _ _ _)) | (first | exact okT | exact okN | exact okE rfl)); (first | (fail_if_success (show Bel _ _)) | (focus first | exact .val _ | (simp [oneOf, Bel_iff_tup, Bel_iff_agg, Bel_iff_rsl, Bel_iff_fn, Bel_iff_rptr, Bel_val]; done)))) | refine thenQ_n ?_ | refine thenQ_r ?_ | refine thenQ_e ?_ | refine blockQ_n ?_ | refine blockQ_r ?_ | refine blockQ_e ?_ | (apply blockQ_o; (exact rfl)) | refine Awp.seq ?_ | refine Awp.skip ?_ | refine Awp.block ?_ | refine reg (fun s => false) ?_ | (apply drwE mixed (fun s => false); (kernel_rfl)) | refine fin ?_ | refine Awp.ret ?_ | refine Awp.exit ?_ | ((first | (apply off; (exact rfl)) | apply condF); (first | (focus (simp only [go_sem, ↓reduceIte, Nat.reduceEqDiff, Nat.reduceBEq, Nat.reduceAdd, Nat.reduceLeDiff, Nat.reduceMul, Nat.reduceLT, Int.reduceToNat, reduceCtorEq, Int.reduceBEq, Int.reduceBNe, Int.reduceLT, Int.reduceLE, Int.reduceGT, Int.reduceGE, hvl, hac] <;> rfl)) | exact rfl)))
    all_goals first | rfl | (exfalso; omega)
  · have e : atU v i = 0 := by simp [atU, List.getElem?_eq_none (show v.length ≤ i by omega)]
    rw [e]
    refine ACalls.of_body Try.func22 rfl (by kernel_rfl) (by rw [Try.ntmps22]; simp) ?_; rw [Try.ntmps22]
    repeat' (first | refine spD (fun _ => ?_) (fun _ => ?_) | refine spF (fun _ => ?_) (fun _ => ?_) | (apply gT; (exact rfl)) | (apply off; (exact rfl); (exact rfl)) | (apply condT; (exact rfl)) | (apply condF; (exact rfl)) | ((first | (apply stp0; (exact rfl); (exact rfl)) | (apply stpN0; (exact rfl)) | apply gT | apply condT | ((first | apply bodyQ_d0 | apply bodyQ_d1 | apply bodyQ_d2 | apply bodyQ_d3 | apply bodyQ_d4); (exact .inr rfl); (rw [Try.results22]))); (first | (focus (simp only [go_sem, ↓reduceIte, Nat.reduceEqDiff, Nat.reduceBEq, Nat.reduceAdd, Nat.reduceLeDiff, Nat.reduceMul, Nat.reduceLT, Int.reduceToNat, reduceCtorEq, Int.reduceBEq, Int.reduceBNe, Int.reduceLT, Int.reduceLE, Int.reduceGT, Int.reduceGE, hvl] <;> rfl)) | exact rfl); (first | (fail_if_success (show okD _ _ _ _ _ _ _ _ _)) | (first | exact okT | exact okN | exact okE rfl)); (first | (fail_if_success (show Bel _ _)) | (focus first | exact .val _ | (simp [oneOf, Bel_iff_tup, Bel_iff_agg, Bel_iff_rsl, Bel_iff_fn, Bel_iff_rptr, Bel_val]; done)))) | refine thenQ_n ?_ | refine thenQ_r ?_ | refine thenQ_e ?_ | refine blockQ_n ?_ | refine blockQ_r ?_ | refine blockQ_e ?_ | (apply blockQ_o; (exact rfl)) | refine Awp.seq ?_ | refine Awp.skip ?_ | refine Awp.block ?_ | refine reg (fun s => false) ?_ | (apply drwE mixed (fun s => false); (kernel_rfl)) | refine fin ?_ | refine Awp.ret ?_ | refine Awp.exit ?_ | ((first | (apply off; (exact rfl)) | apply condF); (first | (focus (simp only [go_sem, ↓reduceIte, Nat.reduceEqDiff, Nat.reduceBEq, Nat.reduceAdd, Nat.reduceLeDiff, Nat.reduceMul, Nat.reduceLT, Int.reduceToNat, reduceCtorEq, Int.reduceBEq, Int.reduceBNe, Int.reduceLT, Int.reduceLE, Int.reduceGT, Int.reduceGE, hvl] <;> rfl)) | exact rfl)))
    all_goals first | rfl | (exfalso; omega)

def pickI (s : Sp) (p : Int) : Int := s.lo + ((s.hi - s.lo) * p).tdiv 255
theorem pick_in {s : Sp} {p : Int} (h : s.lo ≤ s.hi) (hp : 0 ≤ p ∧ p ≤ 255) : s.lo ≤ pickI s p ∧ pickI s p ≤ s.hi := by
  have h1 := Int.mul_nonneg (show 0 ≤ s.hi - s.lo by omega) hp.1
  have h2 : (s.hi - s.lo) * p ≤ (s.hi - s.lo) * 255 := Int.mul_le_mul_of_nonneg_left hp.2 (by omega)
  unfold pickI
  rw [Int.tdiv_eq_ediv_of_nonneg h1]
  omega
theorem pick_mono {s : Sp} {p q : Int} (h : s.lo ≤ s.hi) (hp : 0 ≤ p) (hq : p ≤ q) : pickI s p ≤ pickI s q := by
  have h1 := Int.mul_nonneg (show 0 ≤ s.hi - s.lo by omega) hp
  have h2 : (s.hi - s.lo) * p ≤ (s.hi - s.lo) * q := Int.mul_le_mul_of_nonneg_left hq (by omega)
  unfold pickI
  rw [Int.tdiv_eq_ediv_of_nonneg h1, Int.tdiv_eq_ediv_of_nonneg (by omega)]
  omega

set_option maxRecDepth 8000 in
theorem pick_ok (H : Hp) (s : Sp) (p : Int) (h0 : 0 ≤ s.lo) (h : s.lo ≤ s.hi) (h1 : s.hi ≤ 134217728) (hp : 0 ≤ p ∧ p ≤ 255) : CallsTo Try.prog 21 [.agg s.cs, u8 p] H (iv (pickI s p)) H := by
  have b1 := Int.mul_nonneg (show 0 ≤ s.hi - s.lo by omega) hp.1
  have b2 : (s.hi - s.lo) * p ≤ (s.hi - s.lo) * 255 := Int.mul_le_mul_of_nonneg_left hp.2 (by omega)
  have b3 := pick_in h hp
  have b4 : 0 ≤ ((s.hi - s.lo) * p).tdiv 255 ∧ ((s.hi - s.lo) * p).tdiv 255 ≤ 134217728 := by
    rw [Int.tdiv_eq_ediv_of_nonneg b1]; omega
  have w0 : IntKind.i64.wrap p = p := w64 (by omega) (by omega)
  have w1 : IntKind.i64.wrap (s.hi - s.lo) = s.hi - s.lo := w64 (by omega) (by omega)
  have w2 : IntKind.i64.wrap ((s.hi - s.lo) * p) = (s.hi - s.lo) * p := w64 (by omega) (by omega)
  have w3 : IntKind.i64.wrap (((s.hi - s.lo) * p).tdiv 255) = ((s.hi - s.lo) * p).tdiv 255 := w64 (by omega) (by omega)
  have w4 : IntKind.i64.wrap (s.lo + ((s.hi - s.lo) * p).tdiv 255) = pickI s p := w64 (by unfold pickI at b3; omega) (by unfold pickI at b3; omega)
  refine ACalls.of_body Try.func21 rfl (by kernel_rfl) (by rw [Try.ntmps21]; simp) ?_; rw [Try.ntmps21]
  repeat' (first | refine spD (fun _ => ?_) (fun _ => ?_) | refine spF (fun _ => ?_) (fun _ => ?_) | (apply gT; (exact rfl)) | (apply off; (exact rfl); (exact rfl)) | (apply condT; (exact rfl)) | (apply condF; (exact rfl)) | ((first | (apply stp0; (exact rfl); (exact rfl)) | (apply stpN0; (exact rfl)) | apply gT | apply condT | ((first | apply bodyQ_d0 | apply bodyQ_d1 | apply bodyQ_d2 | apply bodyQ_d3 | apply bodyQ_d4); (exact .inr rfl); (rw [Try.results21]))); (first | (focus (simp only [go_sem, ↓reduceIte, Nat.reduceEqDiff, Nat.reduceBEq, Nat.reduceAdd, Nat.reduceLeDiff, Nat.reduceMul, Nat.reduceLT, Int.reduceToNat, reduceCtorEq, Int.reduceBEq, Int.reduceBNe, Int.reduceLT, Int.reduceLE, Int.reduceGT, Int.reduceGE, Sp.cs, u8, w0, w1, w2, w3, w4] <;> rfl)) | exact rfl); (first | (fail_if_success (show okD _ _ _ _ _ _ _ _ _)) | (first | exact okT | exact okN | exact okE rfl)); (first | (fail_if_success (show Bel _ _)) | (focus first | exact .val _ | (simp [oneOf, Bel_iff_tup, Bel_iff_agg, Bel_iff_rsl, Bel_iff_fn, Bel_iff_rptr, Bel_val]; done)))) | refine thenQ_n ?_ | refine thenQ_r ?_ | refine thenQ_e ?_ | refine blockQ_n ?_ | refine blockQ_r ?_ | refine blockQ_e ?_ | (apply blockQ_o; (exact rfl)) | refine Awp.seq ?_ | refine Awp.skip ?_ | refine Awp.block ?_ | refine reg (fun s => false) ?_ | (apply drwE mixed (fun s => false); (kernel_rfl)) | refine fin ?_ | refine Awp.ret ?_ | refine Awp.exit ?_ | ((first | (apply off; (exact rfl)) | apply condF); (first | (focus (simp only [go_sem, ↓reduceIte, Nat.reduceEqDiff, Nat.reduceBEq, Nat.reduceAdd, Nat.reduceLeDiff, Nat.reduceMul, Nat.reduceLT, Int.reduceToNat, reduceCtorEq, Int.reduceBEq, Int.reduceBNe, Int.reduceLT, Int.reduceLE, Int.reduceGT, Int.reduceGE, Sp.cs, u8, w0, w1, w2, w3, w4] <;> rfl)) | exact rfl)))
  all_goals rfl

def loadN (l : List Nd) (k : Nat) : Sp := ⟨lloN l k, lhiN l k⟩
def ohmN (l : List Nd) (k : Nat) : Sp := ⟨oloN l k, ohiN l k⟩
/-- the true load -/
def tL (l : List Nd) (v : List Int) (k : Nat) : Int := pickI (loadN l k) (atU v k)
/-- the true current -/
def tF (l : List Nd) (v : List Int) (k : Nat) : Int := sumT (tL l v) l l.length k
/-- the true resistance -/
def tR (l : List Nd) (v : List Int) (k : Nat) : Int := pickI (ohmN l k) (atU v k)

theorem tL_in {c : Cb} (hg : c.good) {v : List Int} (hv : ∀ x ∈ v, (Lit.int .u8 x).wf = true) {k : Nat} (hk : k < c.l.length) : lloN c.l k ≤ tL c.l v k ∧ tL c.l v k ≤ lhiN c.l k := by
  have hl := load_in hg hk
  exact pick_in (s := loadN c.l k) hl.2.1 (atU_in hv k)
theorem tR_in {c : Cb} (hg : c.good) {v : List Int} (hv : ∀ x ∈ v, (Lit.int .u8 x).wf = true) {k : Nat} (hk : k < c.l.length) : oloN c.l k ≤ tR c.l v k ∧ tR c.l v k ≤ ohiN c.l k := by
  have hl := ohms_in hg hk
  exact pick_in (s := ohmN c.l k) hl.2.1 (atU_in hv k)

theorem sumT_le {f g : Nat → Int} {l : List Nd} (i : Nat) : ∀ m, (∀ k, k < m → f k ≤ g k) → sumT f l m i ≤ sumT g l m i
  | 0, _ => Int.le_refl _
  | m + 1, h => by
    have := sumT_le (l := l) i m fun k hk => h k (by omega)
    have := h m (by omega)
    unfold sumT
    split <;> omega
theorem tF_in {c : Cb} (hg : c.good) {v : List Int} (hv : ∀ x ∈ v, (Lit.int .u8 x).wf = true) (k : Nat) : (curS c.l k).lo ≤ tF c.l v k ∧ tF c.l v k ≤ (curS c.l k).hi :=
  ⟨sumT_le k _ fun j hj => (tL_in hg hv hj).1, sumT_le k _ fun j hj => (tL_in hg hv hj).2⟩

/-- what the nodes from k on have made of the current in the segment i -/
def flP (l : List Nd) (v : List Int) (k i : Nat) : Int := (if k ≤ i then tL l v i else 0) + (sumN (tF l v) (chi l i) - sumN (tF l v) (chiN l i k))
def flR (l : List Nd) (v : List Int) (k : Nat) : List (List AV) := (List.range l.length).map fun i => [iv (flP l v k i)]
theorem flR_len (l : List Nd) (v : List Int) (k : Nat) : (flR l v k).length = l.length := by simp [flR]
theorem flR_at {l : List Nd} {i : Nat} (h : i < l.length) (v : List Int) (k : Nat) : (flR l v k)[i]? = some [iv (flP l v k i)] := by simp [flR, h]

theorem chiN_low {l : List Nd} {i k : Nat} (h : k ≤ i + 1) : chiN l i k = [] := by
  unfold chiN
  rw [List.filter_eq_nil_iff]
  intro j hj
  simp at hj ⊢
  intro h; omega

theorem tF_eq {l : List Nd} (t : Tr l) (v : List Int) {k : Nat} (hk : k < l.length) : tF l v k = tL l v k + sumN (tF l v) (chi l k) := by
  have e := sub_sum t (tL l v) hk
  rw [sumN_sub] at e
  rw [sumN_congr (g := tF l v) (chi l k) (fun j _ => sumN_sub _ _ _)] at e
  exact e

theorem flP_done {l : List Nd} (t : Tr l) (v : List Int) {k i : Nat} (hi : i < l.length) (h : k ≤ i) : flP l v k i = tF l v i := by
  unfold flP
  rw [if_pos h, chiN_low (by omega), sumN_nil, tF_eq t v hi]; omega
theorem flP_start (l : List Nd) (v : List Int) {i : Nat} (hi : i < l.length) : flP l v l.length i = 0 := by
  unfold flP
  rw [if_neg (by omega), show chiN l i l.length = chi l i from rfl]; omega
theorem flR_start (l : List Nd) (v : List Int) : flR l v l.length = List.replicate l.length [iv 0] := by
  refine List.ext_getElem? fun i => ?_
  by_cases h : i < l.length
  · rw [flR_at h, flP_start l v h]; simp [h]
  · rw [List.getElem?_eq_none (by rw [flR_len]; omega), List.getElem?_eq_none (by simp; omega)]
/-- one's own part -/
theorem flP_own {l : List Nd} (t : Tr l) (v : List Int) {k : Nat} (hk : k < l.length) : flP l v (k + 1) k + tL l v k = tF l v k := by
  unfold flP
  rw [if_neg (by omega), chiN_low (by omega), sumN_nil, tF_eq t v hk]; omega
/-- the others -/
theorem flP_step {l : List Nd} (v : List Int) {k i : Nat} (h : i ≠ k) : flP l v k i = flP l v (k + 1) i + (if i < k ∧ parN l k = i then tF l v k else 0) := by
  unfold flP
  rw [chiN_succ]
  have e : (k ≤ i) = (k + 1 ≤ i) := by simp; omega
  simp only [e]
  by_cases hp : i < k ∧ parN l k = i
  · rw [if_pos hp, if_pos hp, sumN_app]; omega
  · rw [if_neg hp, if_neg hp, List.append_nil]; omega

theorem flR_zero {l : List Nd} (t : Tr l) (v : List Int) : flR l v 0 = (List.range l.length).map fun i => [iv (tF l v i)] := by
  unfold flR
  refine List.map_congr_left fun i hi => ?_
  rw [flP_done t v (by simpa using hi) (Nat.zero_le _)]

/-- the row of a step: one's own part first, then the parent's -/
theorem flR_step {l : List Nd} (t : Tr l) (v : List Int) {k p : Nat} (hk : k < l.length) (hp : parN l k = p) (hpk : p < k) :
    ((flR l v (k + 1)).set k [iv (tF l v k)]).set p [iv (flP l v (k + 1) p + tF l v k)] = flR l v k := by
  refine List.ext_getElem? fun i => ?_
  by_cases h : i < l.length
  · rw [flR_at h, List.getElem?_set, List.length_set, flR_len]
    by_cases e1 : p = i
    · subst e1
      rw [if_pos rfl, if_pos h, flP_step v (show p ≠ k by omega), if_pos ⟨hpk, hp⟩]
    · rw [if_neg e1, List.getElem?_set, flR_len]
      by_cases e2 : k = i
      · subst e2
        rw [if_pos rfl, if_pos h, flP_done t v h (Nat.le_refl _)]
      · rw [if_neg e2, flR_at h, flP_step v (fun h => e2 h.symm), if_neg (fun h => e1 (by omega)), Int.add_zero]
  · rw [List.getElem?_eq_none (by simp [flR_len]; omega), List.getElem?_eq_none (by rw [flR_len]; omega)]
theorem flR_root {l : List Nd} (t : Tr l) (v : List Int) (h0 : 0 < l.length) : (flR l v 1).set 0 [iv (tF l v 0)] = flR l v 0 := by
  refine List.ext_getElem? fun i => ?_
  by_cases h : i < l.length
  · rw [flR_at h, List.getElem?_set, flR_len]
    by_cases e2 : 0 = i
    · subst e2
      rw [if_pos rfl, if_pos h, flP_done t v h (Nat.le_refl _)]
    · rw [if_neg e2, flR_at h, flP_step v (fun h => e2 h.symm), if_neg (fun h => by omega), Int.add_zero]
  · rw [List.getElem?_eq_none (by simp [flR_len]; omega), List.getElem?_eq_none (by rw [flR_len]; omega)]

theorem flP_in {c : Cb} (hg : c.good) {v : List Int} (hv : ∀ x ∈ v, (Lit.int .u8 x).wf = true) (k i : Nat) (hi : i < c.l.length) (hk : k ≤ c.l.length) : -100000000 ≤ flP c.l v k i ∧ flP c.l v k i ≤ 100000000 := by
  have h20 := hg.h.2.1
  have hF : ∀ j, 0 ≤ tF c.l v j ∧ tF c.l v j ≤ 1310720 := fun j => by
    have := tF_in hg hv j; have := curS_in hg j; omega
  have hl := tL_in hg hv hi
  have hl2 := load_in hg hi
  have l1 : (chi c.l i).length ≤ c.l.length := by
    have := List.length_filter_le (fun j => decide (i < j ∧ parN c.l j = i)) (List.range c.l.length)
    rw [List.length_range] at this
    exact this
  have b1 := sumN_in (f := tF c.l v) (B := 1310720) (by omega) (chi c.l i) (fun j _ => hF j)
  have b2 := sumN_in (f := tF c.l v) (B := 1310720) (by omega) (chiN c.l i k) (fun j _ => hF j)
  have l2 : (chiN c.l i k).length ≤ k := by
    have := List.length_filter_le (fun j => decide (i < j ∧ parN c.l j = i)) (List.range k)
    rw [List.length_range] at this
    exact this
  unfold flP
  split <;> omega

end Go.Proofs.Ytphfdbmbdaninaa.Ab
