/- Cables: narrower ones. -/
import Derived.Test.YtphfdbmbdaninaaWX
namespace Go.Proofs.Ytphfdbmbdaninaa.Ab
open Go Go.RowKit Go.Proofs
set_option linter.unusedSimpArgs false
set_option linter.unusedVariables false
attribute [local irreducible] Awp wpO thenQ blockQ bodyQ ACalls stepA

/-- what is known of the world may be told in another way -/
theorem Awp.ofVs {P : Program} {n : Nat} {rd : Option Nat} {c : Code} {T : Env} {H H' : Hp} {Q : Exit → Env → Hp → Prop} (hv : Vs H (.val undef) H (.val undef) H') (h : Awp P n rd c T H' Q) : Awp P n rd c T H Q := by
  unfold Awp at *
  intro base w0 g w a r S hTR hr
  obtain ⟨g', h2, h3, _⟩ := hv base w0 g g w undef (fun b x hx => S.dom b x hx) (fun b ob hb hn => by
    obtain ⟨x, o, _, _, k3⟩ := S.obj b ob hb hn
    exact k3.bel (fun b x hx => S.dom b x hx)) (Gh.le.refl g) S (.val _)
  refine wpIn_mono (h base w0 g' w a r h3 (hTR.mono h2) (hr.mono h2)) fun e a2 w2 ⟨T2, H2, g2, ds, k1, k2, k3, k4, k5, k6⟩ => ?_
  exact ⟨T2, H2, g2, ds, k1, h2.trans k2, k3, k4, k5, by simpa using (Marks.nil g g').append k6 h2 k2⟩

def narrowS (s : Sp) (p q : Int) : Sp := ⟨pickI s (min p q), pickI s (max p q)⟩

theorem narrow_ok (H : Hp) (s : Sp) (p q : Int) (h0 : 0 ≤ s.lo) (h : s.lo ≤ s.hi) (h1 : s.hi ≤ 134217728) (hp : 0 ≤ p ∧ p ≤ 255) (hq : 0 ≤ q ∧ q ≤ 255) : CallsTo Try.prog 48 [.agg s.cs, u8 p, u8 q] H (.agg (narrowS s p q).cs) H := by
  have k1 := fun H => pick_ok H s (min p q) h0 h h1 (by omega)
  have k2 := fun H => pick_ok H s (max p q) h0 h h1 (by omega)
  refine ACalls.of_body Try.func48 rfl (by kernel_rfl) (by rw [Try.ntmps48]; simp) ?_; rw [Try.ntmps48]
  repeat' (first | refine spD (fun _ => ?_) (fun _ => ?_) | refine spF (fun _ => ?_) (fun _ => ?_) | (apply gT; (exact rfl)) | (apply off; (exact rfl); (exact rfl)) | (apply condT; (exact rfl)) | (apply condF; (exact rfl)) | ((first | (apply stp0; (exact rfl); (exact rfl)) | (apply stpN0; (exact rfl)) | apply gT | apply condT | ((first | apply bodyQ_d0 | apply bodyQ_d1 | apply bodyQ_d2 | apply bodyQ_d3 | apply bodyQ_d4); (exact .inr rfl); (rw [Try.results48]))); (first | (focus (simp only [go_sem, ↓reduceIte, Nat.reduceEqDiff, Nat.reduceBEq, Nat.reduceAdd, Nat.reduceLeDiff, Nat.reduceMul, Nat.reduceLT, Int.reduceToNat, reduceCtorEq, Int.reduceBEq, Int.reduceBNe, Int.reduceLT, Int.reduceLE, Int.reduceGT, Int.reduceGE, Sp.cs, u8, maxF, maxA, ite_min, ite_max, if_true, if_false, Bool.false_eq_true] <;> rfl)) | exact rfl); (first | (fail_if_success (show okD _ _ _ _ _ _ _ _ _)) | (first | exact okT | exact okN | exact okE rfl)); (first | (fail_if_success (show Bel _ _)) | (focus first | exact .val _ | (simp [oneOf, Bel_iff_tup, Bel_iff_agg, Bel_iff_rsl, Bel_iff_fn, Bel_iff_rptr, Bel_val]; done)))) | (apply calTo0; (exact rfl); (iterate 2 (simp only [go_sem, ↓reduceIte, Nat.reduceEqDiff, Nat.reduceBEq, Nat.reduceAdd, Nat.reduceLeDiff, Nat.reduceMul, Nat.reduceLT, Int.reduceToNat, reduceCtorEq, Int.reduceBEq, Int.reduceBNe, Int.reduceLT, Int.reduceLE, Int.reduceGT, Int.reduceGE, Sp.cs, u8, maxF, maxA, ite_min, ite_max, if_true, if_false, Bool.false_eq_true]; rfl)); (first | exact k1 _ | exact k2 _); (first | exact okT | exact okN | exact okE rfl)) | refine thenQ_n ?_ | refine thenQ_r ?_ | refine thenQ_e ?_ | refine blockQ_n ?_ | refine blockQ_r ?_ | refine blockQ_e ?_ | (apply blockQ_o; (exact rfl)) | refine Awp.seq ?_ | refine Awp.skip ?_ | refine Awp.block ?_ | refine reg (fun s => s == 6) ?_ | (apply drwE mixed (fun s => s == 6); (kernel_rfl)) | refine fin ?_ | refine Awp.ret ?_ | refine Awp.exit ?_ | ((first | (apply off; (exact rfl)) | apply condF); (first | (focus (simp only [go_sem, ↓reduceIte, Nat.reduceEqDiff, Nat.reduceBEq, Nat.reduceAdd, Nat.reduceLeDiff, Nat.reduceMul, Nat.reduceLT, Int.reduceToNat, reduceCtorEq, Int.reduceBEq, Int.reduceBNe, Int.reduceLT, Int.reduceLE, Int.reduceGT, Int.reduceGE, Sp.cs, u8, maxF, maxA, ite_min, ite_max, if_true, if_false, Bool.false_eq_true] <;> rfl)) | exact rfl)))
  all_goals rfl

theorem narrow_in {s : Sp} {p q : Int} (h : s.lo ≤ s.hi) (hp : 0 ≤ p ∧ p ≤ 255) (hq : 0 ≤ q ∧ q ≤ 255) : s.lo ≤ (narrowS s p q).lo ∧ (narrowS s p q).lo ≤ (narrowS s p q).hi ∧ (narrowS s p q).hi ≤ s.hi := by
  have a1 := pick_in (s := s) (p := min p q) h (by omega)
  have a2 := pick_in (s := s) (p := max p q) h (by omega)
  have a3 := pick_mono (s := s) (p := min p q) (q := max p q) h (by omega) (by omega)
  show s.lo ≤ pickI s (min p q) ∧ pickI s (min p q) ≤ pickI s (max p q) ∧ pickI s (max p q) ≤ s.hi
  omega

/-- the narrowed node -/
def nwNd (v : List Int) (k : Nat) (a : Nd) : Nd :=
  { a with llo := (narrowS a.load (atU v (4 * k + 2)) (atU v (4 * k + 3))).lo, lhi := (narrowS a.load (atU v (4 * k + 2)) (atU v (4 * k + 3))).hi,
           olo := (narrowS a.ohms (atU v (4 * k + 4)) (atU v (4 * k + 5))).lo, ohi := (narrowS a.ohms (atU v (4 * k + 4)) (atU v (4 * k + 5))).hi }
/-- the first m narrowed -/
def nwP (v : List Int) (l : List Nd) (m : Nat) : List Nd := (List.range l.length).map fun i => if i < m then nwNd v i (l.getD i ⟨0,0,0,0,0,0,0,0⟩) else l.getD i ⟨0,0,0,0,0,0,0,0⟩
theorem nwP_len (v : List Int) (l : List Nd) (m : Nat) : (nwP v l m).length = l.length := by simp [nwP]
theorem nwP_at {v : List Int} {l : List Nd} {i : Nat} {a : Nd} (h : l[i]? = some a) (m : Nat) : (nwP v l m)[i]? = some (if i < m then nwNd v i a else a) := by
  have hi := (List.getElem?_eq_some_iff.1 h).1
  unfold nwP
  rw [List.getElem?_map, List.getElem?_range hi]
  simp [h]
theorem nwP_zero (v : List Int) (l : List Nd) : nwP v l 0 = l := by
  refine List.ext_getElem? fun i => ?_
  by_cases h : i < l.length
  · obtain ⟨a, ha⟩ := nth h
    rw [nwP_at ha, ha]; simp
  · rw [List.getElem?_eq_none (by rw [nwP_len]; omega), List.getElem?_eq_none (by omega)]
theorem nwP_step {v : List Int} {l : List Nd} {k : Nat} {a : Nd} (h : l[k]? = some a) : (nwP v l k).set k (nwNd v k a) = nwP v l (k + 1) := by
  refine List.ext_getElem? fun i => ?_
  by_cases hi : i < l.length
  · obtain ⟨b, hb⟩ := nth hi
    rw [nwP_at hb, List.getElem?_set, nwP_len]
    by_cases e : k = i
    · subst e
      rw [if_pos rfl, if_pos hi]
      rw [hb] at h; cases h
      simp
    · rw [if_neg e, nwP_at hb]
      have : (i < k) = (i < k + 1) := by simp; omega
      simp only [this]
  · rw [List.getElem?_eq_none (by rw [List.length_set, nwP_len]; omega), List.getElem?_eq_none (by rw [nwP_len]; omega)]

def nwC (v : List Int) (c : Cb) : Cb := ⟨narrowS c.s (atU v 0) (atU v 1), nwP v c.l c.l.length, false⟩

theorem nw_at {v : List Int} {c : Cb} {i : Nat} {a : Nd} (h : c.l[i]? = some a) : (nwC v c).l[i]? = some (nwNd v i a) := by
  show (nwP v c.l c.l.length)[i]? = _
  rw [nwP_at h, if_pos (List.getElem?_eq_some_iff.1 h).1]

theorem nw_good {v : List Int} (hv : ∀ x ∈ v, (Lit.int .u8 x).wf = true) {c : Cb} (hg : c.good) : (nwC v c).good := by
  obtain ⟨h1, h20, hs, hn⟩ := hg.h
  have hl : (nwC v c).l.length = c.l.length := nwP_len _ _ _
  have hnode : ∀ i n, (nwC v c).l[i]? = some n → nodeOk i n := by
    intro i n hni
    have hi : i < c.l.length := by have := (List.getElem?_eq_some_iff.1 hni).1; rwa [hl] at this
    obtain ⟨a, ha⟩ := nth hi
    rw [nw_at ha] at hni
    cases hni
    obtain ⟨k1, k2, k3, k4, k5, k6⟩ := hn i a ha
    have hol : a.olo ≤ a.ohi ∧ 0 ≤ a.olo ∧ a.ohi ≤ 16777216 := by
      simp only [Nd.ohms, Sp.inR, Sp.bad_iff] at k2; omega
    have hll : a.llo ≤ a.lhi ∧ 0 ≤ a.llo ∧ a.lhi ≤ 65536 := by
      simp only [Nd.load, Sp.inR, Sp.bad_iff] at k3; omega
    have b1 := narrow_in (s := a.ohms) (p := atU v (4 * i + 4)) (q := atU v (4 * i + 5)) hol.1 (atU_in hv _) (atU_in hv _)
    have b2 := narrow_in (s := a.load) (p := atU v (4 * i + 2)) (q := atU v (4 * i + 3)) hll.1 (atU_in hv _) (atU_in hv _)
    simp only [Nd.ohms, Nd.load] at b1 b2
    refine ⟨?_, ?_, ?_, k4, k5, k6⟩
    · unfold headOk at k1 ⊢
      simp only [nwNd, Nd.ohms]
      omega
    · simp only [Nd.ohms, Sp.inR, Sp.bad_iff, nwNd]; omega
    · simp only [Nd.load, Sp.inR, Sp.bad_iff, nwNd]; omega
  have hsu : (nwC v c).s.inR 0 67108864 := by
    simp only [Sp.inR, Sp.bad_iff] at hs
    have b := narrow_in (s := c.s) (p := atU v 0) (q := atU v 1) (by omega) (atU_in hv _) (atU_in hv _)
    show (narrowS c.s (atU v 0) (atU v 1)).inR 0 67108864
    simp only [Sp.inR, Sp.bad_iff]; omega
  refine ⟨?_, ?_⟩
  · unfold Cb.long; rw [hl]; omega
  · have hB : ∀ (l : List Nd) (k : Nat), (∀ i n, l[i]? = some n → nodeOk (k + i) n) → nodesB k l = true := by
      intro l
      induction l with
      | nil => intro k _; rfl
      | cons a l ih =>
        intro k h
        simp only [nodesB, Bool.and_eq_true, decide_eq_true_eq]
        exact ⟨by have := h 0 a rfl; simpa using this, ih (k + 1) fun i n hi => by have := h (i + 1) n (by simpa using hi); rwa [show k + (i + 1) = k + 1 + i by omega] at this⟩
    unfold Cb.code
    rw [hl, if_neg (by omega), if_neg (by rintro (h | h); omega; exact h hsu), if_pos (hB _ 0 (by simpa using hnode))]

theorem parN_nw (v : List Int) (c : Cb) (k : Nat) : parN (nwC v c).l k = parN c.l k := by
  by_cases h : k < c.l.length
  · obtain ⟨a, ha⟩ := nth h
    simp [parN, ha, nw_at ha, nwNd]
  · have hl : (nwC v c).l.length = c.l.length := nwP_len _ _ _
    simp [parN, List.getElem?_eq_none (show c.l.length ≤ k by omega), List.getElem?_eq_none (show (nwC v c).l.length ≤ k by omega)]

theorem pth_congr {l l' : List Nd} (h : ∀ k, parN l k = parN l' k) (k : Nat) : pth l k = pth l' k := by
  induction k using Nat.strongRecOn with
  | _ k ih =>
    by_cases hk : 0 ≤ parN l k ∧ (parN l k).toNat < k
    · rw [pth_pos k hk, pth_pos k (by rw [← h]; exact hk), ih _ hk.2, h]
    · rw [pth, dif_neg hk, pth, dif_neg (by rw [← h]; exact hk)]
theorem sumT_congr {f : Nat → Int} {l l' : List Nd} (h : ∀ k, parN l k = parN l' k) (i : Nat) : ∀ m, sumT f l m i = sumT f l' m i
  | 0 => rfl
  | m + 1 => by unfold sumT; rw [sumT_congr h i m, pth_congr h]

variable {v : List Int} {c : Cb}
theorem nw_load (hv : ∀ x ∈ v, (Lit.int .u8 x).wf = true) (hg : c.good) {k : Nat} (hk : k < c.l.length) : lloN c.l k ≤ lloN (nwC v c).l k ∧ lhiN (nwC v c).l k ≤ lhiN c.l k := by
  obtain ⟨a, ha⟩ := nth hk
  have hl := load_in hg hk
  rw [lloN_at ha, lhiN_at ha] at *
  rw [lloN_at (nw_at ha), lhiN_at (nw_at ha)]
  have b2 := narrow_in (s := a.load) (p := atU v (4 * k + 2)) (q := atU v (4 * k + 3)) hl.2.1 (atU_in hv _) (atU_in hv _)
  exact ⟨b2.1, b2.2.2⟩
theorem nw_ohm (hv : ∀ x ∈ v, (Lit.int .u8 x).wf = true) (hg : c.good) {k : Nat} (hk : k < c.l.length) : oloN c.l k ≤ oloN (nwC v c).l k ∧ ohiN (nwC v c).l k ≤ ohiN c.l k := by
  obtain ⟨a, ha⟩ := nth hk
  have hl := ohms_in hg hk
  rw [oloN_at ha, ohiN_at ha] at *
  rw [oloN_at (nw_at ha), ohiN_at (nw_at ha)]
  have b2 := narrow_in (s := a.ohms) (p := atU v (4 * k + 4)) (q := atU v (4 * k + 5)) hl.2.1 (atU_in hv _) (atU_in hv _)
  exact ⟨b2.1, b2.2.2⟩

theorem nw_cur (hv : ∀ x ∈ v, (Lit.int .u8 x).wf = true) (hg : c.good) (k : Nat) : (curS c.l k).lo ≤ (curS (nwC v c).l k).lo ∧ (curS (nwC v c).l k).hi ≤ (curS c.l k).hi := by
  have hl : (nwC v c).l.length = c.l.length := nwP_len _ _ _
  show sumT (lloN c.l) c.l c.l.length k ≤ sumT (lloN (nwC v c).l) (nwC v c).l (nwC v c).l.length k ∧ sumT (lhiN (nwC v c).l) (nwC v c).l (nwC v c).l.length k ≤ sumT (lhiN c.l) c.l c.l.length k
  rw [hl, sumT_congr (parN_nw v c), sumT_congr (parN_nw v c)]
  exact ⟨sumT_le k _ fun j hj => (nw_load hv hg hj).1, sumT_le k _ fun j hj => (nw_load hv hg hj).2⟩

theorem volS_le (hg : c.good) (k : Nat) : k < c.l.length → (volS c.s c.l k).lo ≤ (volS c.s c.l k).hi := by
  have t := good_tr hg
  induction k using Nat.strongRecOn with
  | _ k ih =>
    intro hk
    rcases Nat.eq_zero_or_pos k with rfl | h0
    · rw [volS_zero t]
      have h := hg.h.2.2.1
      simp only [Sp.inR, Sp.bad_iff] at h
      omega
    · have hu := t.up k h0 hk
      have hp := ih _ hu.2 (by omega)
      rw [volS_pos _ hu]
      have hc := curS_in hg k
      have hc2 := curS_le hg k
      have ho := ohms_in hg hk
      have hd := drop_in hg hk
      have m1 : (curS c.l k).lo * oloN c.l k ≤ (curS c.l k).hi * ohiN c.l k := Int.le_trans (Int.mul_le_mul_of_nonneg_right hc2 (by omega)) (Int.mul_le_mul_of_nonneg_left ho.2.1 (by omega))
      rw [Int.tdiv_eq_ediv_of_nonneg (by omega), Int.tdiv_eq_ediv_of_nonneg (by omega)]
      simp only []
      omega

theorem nw_vol (hv : ∀ x ∈ v, (Lit.int .u8 x).wf = true) (hg : c.good) (k : Nat) : k < c.l.length → (volS c.s c.l k).lo ≤ (volS (nwC v c).s (nwC v c).l k).lo ∧ (volS (nwC v c).s (nwC v c).l k).hi ≤ (volS c.s c.l k).hi := by
  have t := good_tr hg
  have hg' := nw_good hv hg
  have t' := good_tr hg'
  have hl : (nwC v c).l.length = c.l.length := nwP_len _ _ _
  induction k using Nat.strongRecOn with
  | _ k ih =>
    intro hk
    rcases Nat.eq_zero_or_pos k with rfl | h0
    · rw [volS_zero t, volS_zero t']
      have h := hg.h.2.2.1
      simp only [Sp.inR, Sp.bad_iff] at h
      have b := narrow_in (s := c.s) (p := atU v 0) (q := atU v 1) (by omega) (atU_in hv _) (atU_in hv _)
      exact ⟨b.1, b.2.2⟩
    · have hu := t.up k h0 hk
      have hp := ih _ hu.2 (by omega)
      have hu' : 0 ≤ parN (nwC v c).l k ∧ (parN (nwC v c).l k).toNat < k := by rw [parN_nw]; exact hu
      rw [volS_pos _ hu, volS_pos _ hu', parN_nw]
      have hc := curS_in hg k
      have hc' := curS_in hg' k
      have hw := nw_cur hv hg k
      have ho := ohms_in hg hk
      have ho' := ohms_in hg' (k := k) (by omega)
      have hwo := nw_ohm hv hg hk
      have hd := drop_in hg hk
      have hd' := drop_in hg' (k := k) (by omega)
      have m1 : (curS (nwC v c).l k).hi * ohiN (nwC v c).l k ≤ (curS c.l k).hi * ohiN c.l k := Int.le_trans (Int.mul_le_mul_of_nonneg_right hw.2 (by omega)) (Int.mul_le_mul_of_nonneg_left hwo.2 (by omega))
      have m2 : (curS c.l k).lo * oloN c.l k ≤ (curS (nwC v c).l k).lo * oloN (nwC v c).l k := Int.le_trans (Int.mul_le_mul_of_nonneg_right hw.1 (by omega)) (Int.mul_le_mul_of_nonneg_left hwo.1 (by omega))
      rw [Int.tdiv_eq_ediv_of_nonneg (by omega), Int.tdiv_eq_ediv_of_nonneg (by omega), Int.tdiv_eq_ediv_of_nonneg (by omega), Int.tdiv_eq_ediv_of_nonneg (by omega)]
      simp only []
      omega

/-- answers Yes and No stay -/
theorem most_stay {a b : Sp} {n : Int} (h : a.lo ≤ a.hi) (h1 : b.lo ≤ a.lo) (h2 : a.hi ≤ b.hi) : mostI b n = 1 ∨ mostI a n = mostI b n := by
  unfold mostI
  repeat' split
  all_goals first | (left; rfl) | (right; rfl) | (exfalso; omega)

end Go.Proofs.Ytphfdbmbdaninaa.Ab
