/- Cables: the voltages. -/
import Derived.Test.YtphfdbmbdaninaaW9
import Derived.Test.YtphfdbmbdaninaaW6
namespace Go.Proofs.Ytphfdbmbdaninaa.Ab
open Go Go.RowKit Go.Proofs
set_option linter.unusedSimpArgs false
set_option linter.unusedVariables false
attribute [local irreducible] Awp wpO thenQ blockQ bodyQ ACalls stepA

def oloN (l : List Nd) (k : Nat) : Int := (l.getD k ⟨0,0,0,0,0,0,0,0⟩).olo
def ohiN (l : List Nd) (k : Nat) : Int := (l.getD k ⟨0,0,0,0,0,0,0,0⟩).ohi
theorem oloN_at {l : List Nd} {k : Nat} {a : Nd} (h : l[k]? = some a) : oloN l k = a.olo := by simp [oloN, h]
theorem ohiN_at {l : List Nd} {k : Nat} {a : Nd} (h : l[k]? = some a) : ohiN l k = a.ohi := by simp [ohiN, h]

/-- the voltage at the node k -/
def volS (s : Sp) (l : List Nd) (k : Nat) : Sp :=
  if _h : 0 ≤ parN l k ∧ (parN l k).toNat < k then
    ⟨(volS s l (parN l k).toNat).lo - ((curS l k).hi * ohiN l k + 999).tdiv 1000, (volS s l (parN l k).toNat).hi - ((curS l k).lo * oloN l k).tdiv 1000⟩
  else s
termination_by k
decreasing_by all_goals exact _h.2

theorem volS_zero {l : List Nd} (t : Tr l) (s : Sp) : volS s l 0 = s := by
  rw [volS, dif_neg (by rw [t.root]; omega)]
theorem volS_pos {l : List Nd} {k : Nat} (s : Sp) (h : 0 ≤ parN l k ∧ (parN l k).toNat < k) :
    volS s l k = ⟨(volS s l (parN l k).toNat).lo - ((curS l k).hi * ohiN l k + 999).tdiv 1000, (volS s l (parN l k).toNat).hi - ((curS l k).lo * oloN l k).tdiv 1000⟩ := by
  rw [volS, dif_pos h]

theorem curS_in {c : Cb} (hg : c.good) (k : Nat) : 0 ≤ (curS c.l k).lo ∧ (curS c.l k).lo ≤ 1310720 ∧ 0 ≤ (curS c.l k).hi ∧ (curS c.l k).hi ≤ 1310720 := by
  have h20 := hg.h.2.1
  have b1 := sumT_in (f := lloN c.l) (l := c.l) (B := 65536) (by omega) k c.l.length (fun k hk => by have := load_in hg hk; omega)
  have b2 := sumT_in (f := lhiN c.l) (l := c.l) (B := 65536) (by omega) k c.l.length (fun k hk => by have := load_in hg hk; omega)
  show 0 ≤ sumT (lloN c.l) c.l c.l.length k ∧ sumT (lloN c.l) c.l c.l.length k ≤ 1310720 ∧ 0 ≤ sumT (lhiN c.l) c.l c.l.length k ∧ sumT (lhiN c.l) c.l c.l.length k ≤ 1310720
  omega

theorem ohms_in {c : Cb} (hg : c.good) {k : Nat} (hk : k < c.l.length) : 0 ≤ oloN c.l k ∧ oloN c.l k ≤ ohiN c.l k ∧ ohiN c.l k ≤ 16777216 := by
  obtain ⟨a, ha⟩ := nth hk
  have h := (hg.h.2.2.2 k a ha).2.1
  rw [oloN_at ha, ohiN_at ha]
  simp only [Nd.ohms, Sp.inR, Sp.bad_iff] at h
  omega

/-- the products -/
theorem drop_in {c : Cb} (hg : c.good) {k : Nat} (hk : k < c.l.length) :
    (0 ≤ (curS c.l k).hi * ohiN c.l k ∧ (curS c.l k).hi * ohiN c.l k ≤ 21990232555520) ∧ (0 ≤ (curS c.l k).lo * oloN c.l k ∧ (curS c.l k).lo * oloN c.l k ≤ 21990232555520) ∧
    (0 ≤ ((curS c.l k).hi * ohiN c.l k + 999).tdiv 1000 ∧ ((curS c.l k).hi * ohiN c.l k + 999).tdiv 1000 ≤ 22000000000) ∧ (0 ≤ ((curS c.l k).lo * oloN c.l k).tdiv 1000 ∧ ((curS c.l k).lo * oloN c.l k).tdiv 1000 ≤ 22000000000) := by
  have h1 := curS_in hg k
  have h2 := ohms_in hg hk
  have m1 := mul_in (a := (curS c.l k).hi) (b := ohiN c.l k) (A := 1310720) (B := 16777216) (by omega) (by omega) (by omega) (by omega)
  have m2 := mul_in (a := (curS c.l k).lo) (b := oloN c.l k) (A := 1310720) (B := 16777216) (by omega) (by omega) (by omega) (by omega)
  rw [Int.tdiv_eq_ediv_of_nonneg (by omega), Int.tdiv_eq_ediv_of_nonneg (by omega)]
  omega

theorem volS_in {c : Cb} (hg : c.good) (k : Nat) : k < c.l.length → -(22000000000 * (k : Int)) ≤ (volS c.s c.l k).lo ∧ (volS c.s c.l k).lo ≤ 67108864 ∧ -(22000000000 * (k : Int)) ≤ (volS c.s c.l k).hi ∧ (volS c.s c.l k).hi ≤ 67108864 := by
  have t := good_tr hg
  induction k using Nat.strongRecOn with
  | _ k ih =>
    intro hk
    rcases Nat.eq_zero_or_pos k with rfl | h0
    · rw [volS_zero t]
      have h := hg.h.2.2.1
      simp only [Sp.inR, Sp.bad_iff] at h
      omega
    · have hu := t.up k h0 hk
      have := ih _ hu.2 (by omega)
      have hd := drop_in hg hk
      rw [volS_pos _ hu]
      simp only []
      omega

def vols (c : Cb) : List Sp := (List.range c.l.length).map (volS c.s c.l)
/-- the first m are there -/
def volP (c : Cb) (m i : Nat) : Sp := if i < m then volS c.s c.l i else ⟨0, 0⟩
def volR (c : Cb) (m : Nat) : List (List AV) := (List.range c.l.length).map fun i => (volP c m i).cs
theorem volR_len (c : Cb) (m : Nat) : (volR c m).length = c.l.length := by simp [volR]
theorem volR_at {c : Cb} {i : Nat} (h : i < c.l.length) (m : Nat) : (volR c m)[i]? = some (volP c m i).cs := by simp [volR, h]
theorem volR_zero (c : Cb) : volR c 0 = List.replicate c.l.length [iv 0, iv 0] := by
  refine List.ext_getElem? fun i => ?_
  by_cases h : i < c.l.length
  · rw [volR_at h]; simp [h, volP, Sp.cs]
  · rw [List.getElem?_eq_none (by rw [volR_len]; omega), List.getElem?_eq_none (by simp; omega)]
theorem volR_end (c : Cb) : volR c c.l.length = (vols c).map Sp.cs := by
  refine List.ext_getElem? fun i => ?_
  by_cases h : i < c.l.length
  · rw [volR_at h]; simp [vols, volP, h]
  · rw [List.getElem?_eq_none (by rw [volR_len]; omega), List.getElem?_eq_none (by simp [vols]; omega)]
theorem volR_step {c : Cb} {m : Nat} (hm : m < c.l.length) : (volR c m).set m (volS c.s c.l m).cs = volR c (m + 1) := by
  refine List.ext_getElem? fun i => ?_
  by_cases h : i < c.l.length
  · rw [volR_at h, List.getElem?_set]
    by_cases e : m = i
    · subst e
      rw [if_pos rfl, if_pos (by rw [volR_len]; exact h)]
      simp [volP]
    · rw [if_neg e, volR_at h]
      by_cases hlt : i < m
      · simp [volP, hlt, show i < m + 1 by omega]
      · simp [volP, hlt, show ¬ i < m + 1 by omega]
  · rw [List.getElem?_eq_none (by rw [List.length_set, volR_len]; omega), List.getElem?_eq_none (by rw [volR_len]; omega)]
theorem plainVol (c : Cb) (m : Nat) : Plain (volR c m) := by
  unfold volR
  rw [show (fun i => (volP c m i).cs) = Sp.cs ∘ (volP c m) from rfl, ← List.map_map]
  exact plainSp _

theorem curs_at {l : List Nd} {i : Nat} (h : i < l.length) : ((curs l).map Sp.cs)[i]? = some (curS l i).cs := by simp [curs, h]
theorem curs_len (l : List Nd) : ((curs l).map Sp.cs).length = l.length := by simp [curs]

set_option maxRecDepth 8000 in
theorem voltages_ok (H : Hp) (c : Cb) (hg : c.good) : CallsTo Try.prog 70 [treeV c] H (.rsl ((vols c).map Sp.cs) false) H := by
  obtain ⟨h1, h20, hs, hn⟩ := hg.h
  have t := good_tr hg
  have hm : c.l.length ≤ maxLen := by simp only [maxLen]; omega
  have n0 : (0 : Int) ≤ (c.l.length : Int) := by omega
  have n2 : (16 : Int) * (c.l.length : Int) ≤ 281474976710656 := by omega
  have n1 : ((16 : Nat) : Int) * (c.l.length : Int) ≤ 281474976710656 := by omega
  have n3 : (c.l.length : Int) ≤ 9223372036854775807 := by omega
  have n4 : 0 < c.l.length := by omega
  have n5 : (0 : Int) < (c.l.length : Int) := by omega
  have hcl := curs_len c.l
  have r0 : (List.replicate c.l.length [iv 0, iv 0])[0]? = some [iv 0, iv 0] := by rw [List.getElem?_replicate, if_pos n4]
  have r1 : (List.replicate c.l.length [iv 0, iv 0]).set 0 [iv c.s.lo, iv c.s.hi] = volR c 1 := by
    rw [← volR_zero, ← volR_step n4, volS_zero t]; rfl
  have hT := currents_ok (c := c) (hg := hg)
  refine ACalls.of_body Try.func70 rfl (by kernel_rfl) (by rw [Try.ntmps70]; simp) ?_; rw [Try.ntmps70]
  simp only [treeV, Cb.cs, List.cons_append, List.nil_append] at hT ⊢
  repeat' (first | refine spD (fun _ => ?_) (fun _ => ?_) | refine spF (fun _ => ?_) (fun _ => ?_) | (apply gT; (exact rfl)) | (apply off; (exact rfl); (exact rfl)) | (apply condT; (exact rfl)) | (apply condF; (exact rfl)) | ((first | (apply stp0; (exact rfl); (exact rfl)) | (apply stpN0; (exact rfl)) | apply gT | apply condT | ((first | apply bodyQ_d0 | apply bodyQ_d1 | apply bodyQ_d2 | apply bodyQ_d3 | apply bodyQ_d4); (exact .inr rfl); (rw [Try.results70]))); (first | (focus (simp only [go_sem, ↓reduceIte, Nat.reduceEqDiff, Nat.reduceBEq, Nat.reduceAdd, Nat.reduceLeDiff, Nat.reduceMul, Nat.reduceLT, Int.reduceToNat, reduceCtorEq, Int.reduceBEq, Int.reduceBNe, Int.reduceLT, Int.reduceLE, Int.reduceGT, Int.reduceGE, n0, n1, n2, n3, and_self, n4, n5, r0, r1, List.length_replicate, hcl] <;> rfl)) | exact rfl); (first | (fail_if_success (show okD _ _ _ _ _ _ _ _ _)) | (first | exact okT | exact okN | exact okE rfl)); (first | (fail_if_success (show Bel _ _)) | (focus first | exact .val _ | (simp [oneOf, Bel_iff_tup, Bel_iff_agg, Bel_iff_rsl, Bel_iff_fn, Bel_iff_rptr, Bel_val]; done)))) | (apply calTo0; (exact rfl); (iterate 2 (simp only [go_sem, ↓reduceIte, Nat.reduceEqDiff, Nat.reduceBEq, Nat.reduceAdd, Nat.reduceLeDiff, Nat.reduceMul, Nat.reduceLT, Int.reduceToNat, reduceCtorEq, Int.reduceBEq, Int.reduceBNe, Int.reduceLT, Int.reduceLE, Int.reduceGT, Int.reduceGE, n0, n1, n2, n3, and_self, n4, n5, r0, r1, List.length_replicate, hcl]; rfl)); (first | exact hT _); (first | exact okT | exact okN | exact okE rfl)) | refine thenQ_n ?_ | refine thenQ_r ?_ | refine thenQ_e ?_ | refine blockQ_n ?_ | refine blockQ_r ?_ | refine blockQ_e ?_ | (apply blockQ_o; (exact rfl)) | refine Awp.seq ?_ | refine Awp.skip ?_ | refine Awp.block ?_ | refine reg (fun s => s == 5 || s == 6 || s == 7) ?_ | (apply drwE mixed (fun s => s == 5 || s == 6 || s == 7); (kernel_rfl)) | refine fin ?_ | refine Awp.ret ?_ | refine Awp.exit ?_ | ((first | (apply off; (exact rfl)) | apply condF); (first | (focus (simp only [go_sem, ↓reduceIte, Nat.reduceEqDiff, Nat.reduceBEq, Nat.reduceAdd, Nat.reduceLeDiff, Nat.reduceMul, Nat.reduceLT, Int.reduceToNat, reduceCtorEq, Int.reduceBEq, Int.reduceBNe, Int.reduceLT, Int.reduceLE, Int.reduceGT, Int.reduceGE, n0, n1, n2, n3, and_self, n4, n5, r0, r1, List.length_replicate, hcl] <;> rfl)) | exact rfl)))
  refine Awp.loop (ι := Nat) (fun i T' H' => i ≤ c.l.length ∧ T' 25 = iv i ∧ T' 23 = .rsl ((curs c.l).map Sp.cs) false ∧ T' 24 = iv c.l.length ∧ T' 3 = .msl H.length 0 c.l.length ∧ T' 0 = treeV c ∧
    Grow H H' ∧ H'[H.length]? = some (.cells (volR c (max i 1)) 23)) (fun i => c.l.length - i) 0 ?_ ?_
  · refine ⟨by simp, ?_, ?_, ?_, ?_, ?_, ?_, ?_⟩
    · (first | (focus (simp only [go_sem, ↓reduceIte, Nat.reduceEqDiff, Nat.reduceBEq, Nat.reduceAdd, Nat.reduceLeDiff, Nat.reduceMul, Nat.reduceLT, Int.reduceToNat, reduceCtorEq, Int.reduceBEq, Int.reduceBNe, Int.reduceLT, Int.reduceLE, Int.reduceGT, Int.reduceGE]; done)) | (focus (simp only [go_sem, ↓reduceIte, Nat.reduceEqDiff, Nat.reduceBEq, Nat.reduceAdd, Nat.reduceLeDiff, Nat.reduceMul, Nat.reduceLT, Int.reduceToNat, reduceCtorEq, Int.reduceBEq, Int.reduceBNe, Int.reduceLT, Int.reduceLE, Int.reduceGT, Int.reduceGE]; rfl)) | rfl)
    · (first | (focus (simp only [go_sem, ↓reduceIte, Nat.reduceEqDiff, Nat.reduceBEq, Nat.reduceAdd, Nat.reduceLeDiff, Nat.reduceMul, Nat.reduceLT, Int.reduceToNat, reduceCtorEq, Int.reduceBEq, Int.reduceBNe, Int.reduceLT, Int.reduceLE, Int.reduceGT, Int.reduceGE]; done)) | (focus (simp only [go_sem, ↓reduceIte, Nat.reduceEqDiff, Nat.reduceBEq, Nat.reduceAdd, Nat.reduceLeDiff, Nat.reduceMul, Nat.reduceLT, Int.reduceToNat, reduceCtorEq, Int.reduceBEq, Int.reduceBNe, Int.reduceLT, Int.reduceLE, Int.reduceGT, Int.reduceGE]; rfl)) | rfl)
    · (first | (focus (simp only [go_sem, ↓reduceIte, Nat.reduceEqDiff, Nat.reduceBEq, Nat.reduceAdd, Nat.reduceLeDiff, Nat.reduceMul, Nat.reduceLT, Int.reduceToNat, reduceCtorEq, Int.reduceBEq, Int.reduceBNe, Int.reduceLT, Int.reduceLE, Int.reduceGT, Int.reduceGE, hcl]; done)) | (focus (simp only [go_sem, ↓reduceIte, Nat.reduceEqDiff, Nat.reduceBEq, Nat.reduceAdd, Nat.reduceLeDiff, Nat.reduceMul, Nat.reduceLT, Int.reduceToNat, reduceCtorEq, Int.reduceBEq, Int.reduceBNe, Int.reduceLT, Int.reduceLE, Int.reduceGT, Int.reduceGE, hcl]; rfl)) | rfl)
    · (first | (focus (simp only [go_sem, ↓reduceIte, Nat.reduceEqDiff, Nat.reduceBEq, Nat.reduceAdd, Nat.reduceLeDiff, Nat.reduceMul, Nat.reduceLT, Int.reduceToNat, reduceCtorEq, Int.reduceBEq, Int.reduceBNe, Int.reduceLT, Int.reduceLE, Int.reduceGT, Int.reduceGE]; done)) | (focus (simp only [go_sem, ↓reduceIte, Nat.reduceEqDiff, Nat.reduceBEq, Nat.reduceAdd, Nat.reduceLeDiff, Nat.reduceMul, Nat.reduceLT, Int.reduceToNat, reduceCtorEq, Int.reduceBEq, Int.reduceBNe, Int.reduceLT, Int.reduceLE, Int.reduceGT, Int.reduceGE]; rfl)) | rfl)
    · (first | (focus (simp only [go_sem, ↓reduceIte, Nat.reduceEqDiff, Nat.reduceBEq, Nat.reduceAdd, Nat.reduceLeDiff, Nat.reduceMul, Nat.reduceLT, Int.reduceToNat, reduceCtorEq, Int.reduceBEq, Int.reduceBNe, Int.reduceLT, Int.reduceLE, Int.reduceGT, Int.reduceGE, treeV, Cb.cs, List.cons_append, List.nil_append]; done)) | (focus (simp only [go_sem, ↓reduceIte, Nat.reduceEqDiff, Nat.reduceBEq, Nat.reduceAdd, Nat.reduceLeDiff, Nat.reduceMul, Nat.reduceLT, Int.reduceToNat, reduceCtorEq, Int.reduceBEq, Int.reduceBNe, Int.reduceLT, Int.reduceLE, Int.reduceGT, Int.reduceGE, treeV, Cb.cs, List.cons_append, List.nil_append]; rfl)) | rfl)
    · exact (Grow.refl _).app _
    · simp
  rintro i T K ⟨hi, h25, h23, h24, h3, h0, hG, hB⟩
  by_cases hlt : i < c.l.length
  · have hw := wsucc hlt hm
    have hcur := curs_at hlt
    simp only [Sp.cs] at hcur
    obtain ⟨a, ha⟩ := nth hlt
    have hac := nthMap Nd.cs ha
    simp only [Nd.cs] at hac
    simp only [treeV, Cb.cs, List.cons_append, List.nil_append] at h0
    have hB' := held hB
    have hBS := heldS hB
    rcases Nat.eq_zero_or_pos i with rfl | hpos
    · have e0 : ((0 : Nat) : Int) = 0 := rfl
      rw [e0] at h25
      have hw : IntKind.i64.wrap (0 + 1) = ((0 + 1 : Nat) : Int) := hw
      repeat' (first | refine spD (fun _ => ?_) (fun _ => ?_) | refine spF (fun _ => ?_) (fun _ => ?_) | (apply gT; (exact rfl)) | (apply off; (exact rfl); (exact rfl)) | (apply condT; (exact rfl)) | (apply condF; (exact rfl)) | ((first | (apply stp0; (exact rfl); (exact rfl)) | (apply stpN0; (exact rfl)) | apply gT | apply condT | ((first | apply bodyQ_d0 | apply bodyQ_d1 | apply bodyQ_d2 | apply bodyQ_d3 | apply bodyQ_d4); (exact .inr rfl); (rw [Try.results70]))); (first | (focus (simp only [go_sem, ↓reduceIte, Nat.reduceEqDiff, Nat.reduceBEq, Nat.reduceAdd, Nat.reduceLeDiff, Nat.reduceMul, Nat.reduceLT, Int.reduceToNat, reduceCtorEq, Int.reduceBEq, Int.reduceBNe, Int.reduceLT, Int.reduceLE, Int.reduceGT, Int.reduceGE, h25, h23, h24, h3, h0, hcur, hcl, hw] <;> rfl)) | exact rfl); (first | (fail_if_success (show okD _ _ _ _ _ _ _ _ _)) | (first | exact okT | exact okN | exact okE rfl)); (first | (fail_if_success (show Bel _ _)) | (focus first | exact .val _ | (simp [oneOf, Bel_iff_tup, Bel_iff_agg, Bel_iff_rsl, Bel_iff_fn, Bel_iff_rptr, Bel_val]; done)))) | refine thenQ_n ?_ | refine thenQ_r ?_ | refine thenQ_e ?_ | refine blockQ_n ?_ | refine blockQ_r ?_ | refine blockQ_e ?_ | (apply blockQ_o; (exact rfl)) | refine Awp.seq ?_ | refine Awp.skip ?_ | refine Awp.block ?_ | refine reg (fun s => s == 5 || s == 6 || s == 7) ?_ | (apply drwE mixed (fun s => s == 5 || s == 6 || s == 7); (kernel_rfl)) | refine fin ?_ | refine Awp.ret ?_ | refine Awp.exit ?_ | ((first | (apply off; (exact rfl)) | apply condF); (first | (focus (simp only [go_sem, ↓reduceIte, Nat.reduceEqDiff, Nat.reduceBEq, Nat.reduceAdd, Nat.reduceLeDiff, Nat.reduceMul, Nat.reduceLT, Int.reduceToNat, reduceCtorEq, Int.reduceBEq, Int.reduceBNe, Int.reduceLT, Int.reduceLE, Int.reduceGT, Int.reduceGE, h25, h23, h24, h3, h0, hcur, hcl, hw] <;> rfl)) | exact rfl)))
      all_goals first | (exfalso; omega) | skip
      refine ⟨1, ⟨by omega, ?_, ?_, ?_, ?_, ?_, (hG.app _), ?_⟩, by omega⟩
      · (first | (focus (simp only [go_sem, ↓reduceIte, Nat.reduceEqDiff, Nat.reduceBEq, Nat.reduceAdd, Nat.reduceLeDiff, Nat.reduceMul, Nat.reduceLT, Int.reduceToNat, reduceCtorEq, Int.reduceBEq, Int.reduceBNe, Int.reduceLT, Int.reduceLE, Int.reduceGT, Int.reduceGE, hw]; done)) | (focus (simp only [go_sem, ↓reduceIte, Nat.reduceEqDiff, Nat.reduceBEq, Nat.reduceAdd, Nat.reduceLeDiff, Nat.reduceMul, Nat.reduceLT, Int.reduceToNat, reduceCtorEq, Int.reduceBEq, Int.reduceBNe, Int.reduceLT, Int.reduceLE, Int.reduceGT, Int.reduceGE, hw]; rfl)) | rfl)
      · (first | (focus (simp only [go_sem, ↓reduceIte, Nat.reduceEqDiff, Nat.reduceBEq, Nat.reduceAdd, Nat.reduceLeDiff, Nat.reduceMul, Nat.reduceLT, Int.reduceToNat, reduceCtorEq, Int.reduceBEq, Int.reduceBNe, Int.reduceLT, Int.reduceLE, Int.reduceGT, Int.reduceGE, h23]; done)) | (focus (simp only [go_sem, ↓reduceIte, Nat.reduceEqDiff, Nat.reduceBEq, Nat.reduceAdd, Nat.reduceLeDiff, Nat.reduceMul, Nat.reduceLT, Int.reduceToNat, reduceCtorEq, Int.reduceBEq, Int.reduceBNe, Int.reduceLT, Int.reduceLE, Int.reduceGT, Int.reduceGE, h23]; rfl)) | rfl)
      · (first | (focus (simp only [go_sem, ↓reduceIte, Nat.reduceEqDiff, Nat.reduceBEq, Nat.reduceAdd, Nat.reduceLeDiff, Nat.reduceMul, Nat.reduceLT, Int.reduceToNat, reduceCtorEq, Int.reduceBEq, Int.reduceBNe, Int.reduceLT, Int.reduceLE, Int.reduceGT, Int.reduceGE, h24]; done)) | (focus (simp only [go_sem, ↓reduceIte, Nat.reduceEqDiff, Nat.reduceBEq, Nat.reduceAdd, Nat.reduceLeDiff, Nat.reduceMul, Nat.reduceLT, Int.reduceToNat, reduceCtorEq, Int.reduceBEq, Int.reduceBNe, Int.reduceLT, Int.reduceLE, Int.reduceGT, Int.reduceGE, h24]; rfl)) | rfl)
      · (first | (focus (simp only [go_sem, ↓reduceIte, Nat.reduceEqDiff, Nat.reduceBEq, Nat.reduceAdd, Nat.reduceLeDiff, Nat.reduceMul, Nat.reduceLT, Int.reduceToNat, reduceCtorEq, Int.reduceBEq, Int.reduceBNe, Int.reduceLT, Int.reduceLE, Int.reduceGT, Int.reduceGE, h3]; done)) | (focus (simp only [go_sem, ↓reduceIte, Nat.reduceEqDiff, Nat.reduceBEq, Nat.reduceAdd, Nat.reduceLeDiff, Nat.reduceMul, Nat.reduceLT, Int.reduceToNat, reduceCtorEq, Int.reduceBEq, Int.reduceBNe, Int.reduceLT, Int.reduceLE, Int.reduceGT, Int.reduceGE, h3]; rfl)) | rfl)
      · (first | (focus (simp only [go_sem, ↓reduceIte, Nat.reduceEqDiff, Nat.reduceBEq, Nat.reduceAdd, Nat.reduceLeDiff, Nat.reduceMul, Nat.reduceLT, Int.reduceToNat, reduceCtorEq, Int.reduceBEq, Int.reduceBNe, Int.reduceLT, Int.reduceLE, Int.reduceGT, Int.reduceGE, h0, treeV, Cb.cs, List.cons_append, List.nil_append]; done)) | (focus (simp only [go_sem, ↓reduceIte, Nat.reduceEqDiff, Nat.reduceBEq, Nat.reduceAdd, Nat.reduceLeDiff, Nat.reduceMul, Nat.reduceLT, Int.reduceToNat, reduceCtorEq, Int.reduceBEq, Int.reduceBNe, Int.reduceLT, Int.reduceLE, Int.reduceGT, Int.reduceGE, h0, treeV, Cb.cs, List.cons_append, List.nil_append]; rfl)) | rfl)
      · exact hB'.2.1 _
    · have hu := t.up i hpos hlt
      have hpar : a.par = ((parN c.l i).toNat : Int) := by
        have e : parN c.l i = a.par := by simp [parN, ha]
        rw [← e]; omega
      have hne : ¬ (i : Int) = 0 := by omega
      have hp1 : (parN c.l i).toNat < c.l.length := by omega
      have hrow := volR_at hp1 (max i 1)
      rw [show volP c (max i 1) (parN c.l i).toNat = volS c.s c.l (parN c.l i).toNat by unfold volP; rw [if_pos (by omega)]] at hrow
      simp only [Sp.cs] at hrow
      rw [hpar] at hac
      have hv := volS_in hg _ hp1
      have hd := drop_in hg hlt
      have hvp := volS_pos c.s hu
      have hrl := volR_len c (max i 1)
      have hrow2 := volR_at hlt (max i 1)
      simp only [Sp.cs] at hrow2
      rw [oloN_at ha, ohiN_at ha] at hd hvp
      have w1 : IntKind.i64.wrap ((curS c.l i).hi * a.ohi) = (curS c.l i).hi * a.ohi := w64 (by omega) (by omega)
      have w2 : IntKind.i64.wrap ((curS c.l i).hi * a.ohi + 999) = (curS c.l i).hi * a.ohi + 999 := w64 (by omega) (by omega)
      have w3 : IntKind.i64.wrap ((curS c.l i).lo * a.olo) = (curS c.l i).lo * a.olo := w64 (by omega) (by omega)
      have w6 : IntKind.i64.wrap (((curS c.l i).hi * a.ohi + 999).tdiv 1000) = ((curS c.l i).hi * a.ohi + 999).tdiv 1000 := w64 (by omega) (by omega)
      have w7 : IntKind.i64.wrap (((curS c.l i).lo * a.olo).tdiv 1000) = ((curS c.l i).lo * a.olo).tdiv 1000 := w64 (by omega) (by omega)
      have w4 : IntKind.i64.wrap ((volS c.s c.l (parN c.l i).toNat).lo - ((curS c.l i).hi * a.ohi + 999).tdiv 1000) = (volS c.s c.l i).lo := by rw [hvp]; exact w64 (by omega) (by omega)
      have w5 : IntKind.i64.wrap ((volS c.s c.l (parN c.l i).toNat).hi - ((curS c.l i).lo * a.olo).tdiv 1000) = (volS c.s c.l i).hi := by rw [hvp]; exact w64 (by omega) (by omega)
      have hst : (volR c (max i 1)).set i [iv (volS c.s c.l i).lo, iv (volS c.s c.l i).hi] = volR c (max (i + 1) 1) := by
        rw [show max i 1 = i by omega, show max (i + 1) 1 = i + 1 by omega]; exact volR_step hlt
      have hl0 := (List.getElem?_eq_some_iff.1 hB).1
      repeat' (first | refine spD (fun _ => ?_) (fun _ => ?_) | refine spF (fun _ => ?_) (fun _ => ?_) | (apply gT; (exact rfl)) | (apply off; (exact rfl); (exact rfl)) | (apply condT; (exact rfl)) | (apply condF; (exact rfl)) | ((first | (apply stp0; (exact rfl); (exact rfl)) | (apply stpN0; (exact rfl)) | apply gT | apply condT | ((first | apply bodyQ_d0 | apply bodyQ_d1 | apply bodyQ_d2 | apply bodyQ_d3 | apply bodyQ_d4); (exact .inr rfl); (rw [Try.results70]))); (first | (focus (simp only [go_sem, ↓reduceIte, Nat.reduceEqDiff, Nat.reduceBEq, Nat.reduceAdd, Nat.reduceLeDiff, Nat.reduceMul, Nat.reduceLT, Int.reduceToNat, reduceCtorEq, Int.reduceBEq, Int.reduceBNe, Int.reduceLT, Int.reduceLE, Int.reduceGT, Int.reduceGE, h25, h23, h24, h3, h0, hcur, hcl, hw, hne, hac, hp1, hlt, hrow, hrow2, hrl, hB', hBS, w1, w2, w3, w4, w5, w6, w7, hst, Nat.zero_add] <;> rfl)) | exact rfl); (first | (fail_if_success (show okD _ _ _ _ _ _ _ _ _)) | (first | exact okT | exact okN | exact okE rfl)); (first | (fail_if_success (show Bel _ _)) | (focus first | exact .val _ | (simp [oneOf, Bel_iff_tup, Bel_iff_agg, Bel_iff_rsl, Bel_iff_fn, Bel_iff_rptr, Bel_val]; done)))) | refine thenQ_n ?_ | refine thenQ_r ?_ | refine thenQ_e ?_ | refine blockQ_n ?_ | refine blockQ_r ?_ | refine blockQ_e ?_ | (apply blockQ_o; (exact rfl)) | refine Awp.seq ?_ | refine Awp.skip ?_ | refine Awp.block ?_ | refine reg (fun s => s == 5 || s == 6 || s == 7) ?_ | (apply drwE mixed (fun s => s == 5 || s == 6 || s == 7); (kernel_rfl)) | refine fin ?_ | refine Awp.ret ?_ | refine Awp.exit ?_ | ((first | (apply off; (exact rfl)) | apply condF); (first | (focus (simp only [go_sem, ↓reduceIte, Nat.reduceEqDiff, Nat.reduceBEq, Nat.reduceAdd, Nat.reduceLeDiff, Nat.reduceMul, Nat.reduceLT, Int.reduceToNat, reduceCtorEq, Int.reduceBEq, Int.reduceBNe, Int.reduceLT, Int.reduceLE, Int.reduceGT, Int.reduceGE, h25, h23, h24, h3, h0, hcur, hcl, hw, hne, hac, hp1, hlt, hrow, hrow2, hrl, hB', hBS, w1, w2, w3, w4, w5, w6, w7, hst, Nat.zero_add] <;> rfl)) | exact rfl)))
      all_goals first | (exfalso; omega) | skip
      refine ⟨i + 1, ⟨by omega, ?_, ?_, ?_, ?_, ?_, ((((hG.set (Nat.le_refl _) _).app _).app _).app _), hBS.2.2.2.1 _ _ _ _⟩, by omega⟩
      · (first | (focus (simp only [go_sem, ↓reduceIte, Nat.reduceEqDiff, Nat.reduceBEq, Nat.reduceAdd, Nat.reduceLeDiff, Nat.reduceMul, Nat.reduceLT, Int.reduceToNat, reduceCtorEq, Int.reduceBEq, Int.reduceBNe, Int.reduceLT, Int.reduceLE, Int.reduceGT, Int.reduceGE, hw]; done)) | (focus (simp only [go_sem, ↓reduceIte, Nat.reduceEqDiff, Nat.reduceBEq, Nat.reduceAdd, Nat.reduceLeDiff, Nat.reduceMul, Nat.reduceLT, Int.reduceToNat, reduceCtorEq, Int.reduceBEq, Int.reduceBNe, Int.reduceLT, Int.reduceLE, Int.reduceGT, Int.reduceGE, hw]; rfl)) | rfl)
      · (first | (focus (simp only [go_sem, ↓reduceIte, Nat.reduceEqDiff, Nat.reduceBEq, Nat.reduceAdd, Nat.reduceLeDiff, Nat.reduceMul, Nat.reduceLT, Int.reduceToNat, reduceCtorEq, Int.reduceBEq, Int.reduceBNe, Int.reduceLT, Int.reduceLE, Int.reduceGT, Int.reduceGE, h23]; done)) | (focus (simp only [go_sem, ↓reduceIte, Nat.reduceEqDiff, Nat.reduceBEq, Nat.reduceAdd, Nat.reduceLeDiff, Nat.reduceMul, Nat.reduceLT, Int.reduceToNat, reduceCtorEq, Int.reduceBEq, Int.reduceBNe, Int.reduceLT, Int.reduceLE, Int.reduceGT, Int.reduceGE, h23]; rfl)) | rfl)
      · (first | (focus (simp only [go_sem, ↓reduceIte, Nat.reduceEqDiff, Nat.reduceBEq, Nat.reduceAdd, Nat.reduceLeDiff, Nat.reduceMul, Nat.reduceLT, Int.reduceToNat, reduceCtorEq, Int.reduceBEq, Int.reduceBNe, Int.reduceLT, Int.reduceLE, Int.reduceGT, Int.reduceGE, h24]; done)) | (focus (simp only [go_sem, ↓reduceIte, Nat.reduceEqDiff, Nat.reduceBEq, Nat.reduceAdd, Nat.reduceLeDiff, Nat.reduceMul, Nat.reduceLT, Int.reduceToNat, reduceCtorEq, Int.reduceBEq, Int.reduceBNe, Int.reduceLT, Int.reduceLE, Int.reduceGT, Int.reduceGE, h24]; rfl)) | rfl)
      · (first | (focus (simp only [go_sem, ↓reduceIte, Nat.reduceEqDiff, Nat.reduceBEq, Nat.reduceAdd, Nat.reduceLeDiff, Nat.reduceMul, Nat.reduceLT, Int.reduceToNat, reduceCtorEq, Int.reduceBEq, Int.reduceBNe, Int.reduceLT, Int.reduceLE, Int.reduceGT, Int.reduceGE, h3]; done)) | (focus (simp only [go_sem, ↓reduceIte, Nat.reduceEqDiff, Nat.reduceBEq, Nat.reduceAdd, Nat.reduceLeDiff, Nat.reduceMul, Nat.reduceLT, Int.reduceToNat, reduceCtorEq, Int.reduceBEq, Int.reduceBNe, Int.reduceLT, Int.reduceLE, Int.reduceGT, Int.reduceGE, h3]; rfl)) | rfl)
      · (first | (focus (simp only [go_sem, ↓reduceIte, Nat.reduceEqDiff, Nat.reduceBEq, Nat.reduceAdd, Nat.reduceLeDiff, Nat.reduceMul, Nat.reduceLT, Int.reduceToNat, reduceCtorEq, Int.reduceBEq, Int.reduceBNe, Int.reduceLT, Int.reduceLE, Int.reduceGT, Int.reduceGE, h0, treeV, Cb.cs, List.cons_append, List.nil_append]; done)) | (focus (simp only [go_sem, ↓reduceIte, Nat.reduceEqDiff, Nat.reduceBEq, Nat.reduceAdd, Nat.reduceLeDiff, Nat.reduceMul, Nat.reduceLT, Int.reduceToNat, reduceCtorEq, Int.reduceBEq, Int.reduceBNe, Int.reduceLT, Int.reduceLE, Int.reduceGT, Int.reduceGE, h0, treeV, Cb.cs, List.cons_append, List.nil_append]; rfl)) | rfl)
  · have hil : i = c.l.length := by omega
    subst hil
    rw [show max c.l.length 1 = c.l.length by omega, volR_end] at hB
    repeat' ((fail_if_success (apply stopR (id := 5))); (fail_if_success (apply stopS (id := 5))); first | refine spD (fun _ => ?_) (fun _ => ?_) | refine spF (fun _ => ?_) (fun _ => ?_) | (apply gT; (exact rfl)) | (apply off; (exact rfl); (exact rfl)) | (apply condT; (exact rfl)) | (apply condF; (exact rfl)) | ((first | (apply stp0; (exact rfl); (exact rfl)) | (apply stpN0; (exact rfl)) | apply gT | apply condT | ((first | apply bodyQ_d0 | apply bodyQ_d1 | apply bodyQ_d2 | apply bodyQ_d3 | apply bodyQ_d4); (exact .inr rfl); (rw [Try.results70]))); (first | (focus (simp only [go_sem, ↓reduceIte, Nat.reduceEqDiff, Nat.reduceBEq, Nat.reduceAdd, Nat.reduceLeDiff, Nat.reduceMul, Nat.reduceLT, Int.reduceToNat, reduceCtorEq, Int.reduceBEq, Int.reduceBNe, Int.reduceLT, Int.reduceLE, Int.reduceGT, Int.reduceGE, h25, h23, h24, h3, h0] <;> rfl)) | exact rfl); (first | (fail_if_success (show okD _ _ _ _ _ _ _ _ _)) | (first | exact okT | exact okN | exact okE rfl)); (first | (fail_if_success (show Bel _ _)) | (focus first | exact .val _ | (simp [oneOf, Bel_iff_tup, Bel_iff_agg, Bel_iff_rsl, Bel_iff_fn, Bel_iff_rptr, Bel_val]; done)))) | refine thenQ_n ?_ | refine thenQ_r ?_ | refine thenQ_e ?_ | refine blockQ_n ?_ | refine blockQ_r ?_ | refine blockQ_e ?_ | (apply blockQ_o; (exact rfl)) | refine Awp.seq ?_ | refine Awp.skip ?_ | refine Awp.block ?_ | refine reg (fun s => s == 5 || s == 6 || s == 7) ?_ | (apply drwE mixed (fun s => s == 5 || s == 6 || s == 7); (kernel_rfl)) | refine fin ?_ | refine Awp.ret ?_ | refine Awp.exit ?_ | ((first | (apply off; (exact rfl)) | apply condF); (first | (focus (simp only [go_sem, ↓reduceIte, Nat.reduceEqDiff, Nat.reduceBEq, Nat.reduceAdd, Nat.reduceLeDiff, Nat.reduceMul, Nat.reduceLT, Int.reduceToNat, reduceCtorEq, Int.reduceBEq, Int.reduceBNe, Int.reduceLT, Int.reduceLE, Int.reduceGT, Int.reduceGE, h25, h23, h24, h3, h0] <;> rfl)) | exact rfl)))
    all_goals first | (exfalso; omega) | skip
    exact bodyQ_frzG (.inr rfl) (len := c.l.length) (by rw [Try.results70]; simp only [go_sem, ↓reduceIte, Nat.reduceEqDiff, Nat.reduceBEq, Nat.reduceAdd, Nat.reduceLeDiff, Nat.reduceMul, Nat.reduceLT, Int.reduceToNat, reduceCtorEq, Int.reduceBEq, Int.reduceBNe, Int.reduceLT, Int.reduceLE, Int.reduceGT, Int.reduceGE, h3]) hG hB (Nat.le_refl _) (by simp [vols]) (plainSp _)

end Go.Proofs.Ytphfdbmbdaninaa.Ab
