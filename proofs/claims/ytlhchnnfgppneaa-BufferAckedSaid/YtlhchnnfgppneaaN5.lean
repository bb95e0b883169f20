/- Buffers: where a record goes; slices.Insert of one number. -/
import Derived.Test.YtlhchnnfgppneaaN4
namespace Go.Proofs.Ytlhchnnfgppneaa.Ab
open Go Go.RowKit Go.Proofs
set_option linter.unusedSimpArgs false
set_option linter.unusedVariables false
attribute [local irreducible] Awp wpO thenQ blockQ bodyQ ACalls stepA

set_option maxRecDepth 8000 in
theorem put1_ok {H : Hp} {F : Ft} {w : Rw} (h : RepW H F w) (id : Int) (x r : Item) (h1 : getM w.kr id = some (.agg x.cs)) :
    CallsTo Try.prog 58 [iv id, .agg r.cs, .rptr [.mptr F.b 0 0] 0] H (iv (cmpR x r)) H := by
  have hb := h.hb
  simp only [Rw.cs] at hb
  have l1 := (mT40.look0 h.hr id).2
  rw [h1] at l1
  simp only [Option.getD_some, Item.cs] at l1
  have hc := fun H => compare_ok H x r
  simp only [Item.cs] at hc ⊢
  refine ACalls.of_body Try.func58 rfl (by kernel_rfl) (by rw [Try.ntmps58]; simp) ?_; rw [Try.ntmps58]
  repeat' (first | refine spD (fun _ => ?_) (fun _ => ?_) | refine spF (fun _ => ?_) (fun _ => ?_) | (apply gT; (exact rfl)) | (apply off; (exact rfl); (exact rfl)) | (apply condT; (exact rfl)) | (apply condF; (exact rfl)) | ((first | (apply stp0; (exact rfl); (exact rfl)) | (apply stpN0; (exact rfl)) | apply gT | apply condT | ((first | apply bodyQ_d0 | apply bodyQ_d1 | apply bodyQ_d2 | apply bodyQ_d3 | apply bodyQ_d4); (exact .inr rfl); (rw [Try.results58]))); (first | (focus (simp only [go_sem, ↓reduceIte, simprocAttr, hb, l1] <;> rfl)) | exact rfl); (first | (fail_if_success (show okD _ _ _ _ _ _ _ _ _)) | (first | exact okT | exact okN | exact okE rfl)); (first | (fail_if_success (show Bel _ _)) | (focus first | exact .val _ | (simp [oneOf, Bel_iff_tup, Bel_iff_agg, Bel_iff_rsl, Bel_iff_fn, Bel_iff_rptr, Bel_val]; done)))) | (apply calTo0; (exact rfl); (iterate 2 (simp only [go_sem, ↓reduceIte, simprocAttr, hb, l1]; rfl)); (first | exact hc _); (first | exact okT | exact okN | exact okE rfl)) | refine thenQ_n ?_ | refine thenQ_r ?_ | refine thenQ_e ?_ | refine blockQ_n ?_ | refine blockQ_r ?_ | refine blockQ_e ?_ | (apply blockQ_o; (exact rfl)) | refine Awp.seq ?_ | refine Awp.skip ?_ | refine Awp.block ?_ | refine reg (fun s => false) ?_ | (apply drwE mixed (fun s => false); (kernel_rfl)) | refine fin ?_ | refine Awp.ret ?_ | refine Awp.exit ?_ | ((first | (apply off; (exact rfl)) | apply condF); (first | (focus (simp only [go_sem, ↓reduceIte, simprocAttr, hb, l1] <;> rfl)) | exact rfl)))
  all_goals first | rfl | contradiction | (exfalso; omega) | skip

theorem half_nat (a b : Nat) : ((a : Int) + (b : Int)).tdiv 2 = (((a + b) / 2 : Nat) : Int) := by
  rw [Int.tdiv_eq_ediv_of_nonneg (by omega)]; omega

set_option maxRecDepth 8000 in
set_option maxHeartbeats 4000000 in
theorem place_ok {H : Hp} {F : Ft} {w : Rw} {S : Bf} (hR : Rep H F w S) (hg : Good S) (r : Item) (a : Nat) (ha : a ≤ S.L.length) (hp : ∀ i h, S.L[i]? = some h → (cmpR h.r r < 0 ↔ i < a)) :
    CallsTo Try.prog 57 [w.ord, .agg r.cs, .fn (.func 58) [.rptr [.mptr F.b 0 0] 0]] H (iv a) H := by
  have hil : (idsL S.L).length = S.L.length := by simp [idsL]
  have hlm := hg.len
  obtain ⟨ids, hids⟩ : ∃ ids, ids = idsL S.L := ⟨_, rfl⟩
  have hO := hR.ord
  rw [← hids] at hO hil
  obtain ⟨ord, hord⟩ : ∃ ord, ord = w.ord := ⟨_, rfl⟩
  rw [← hord] at hO ⊢
  cases hO with
  | nil =>
    have : a = 0 := by simp at hil; omega
    subst this
    simp only [Item.cs]
    refine ACalls.of_body Try.func57 rfl (by kernel_rfl) (by rw [Try.ntmps57]; simp) ?_; rw [Try.ntmps57]
    repeat' (first | refine spD (fun _ => ?_) (fun _ => ?_) | refine spF (fun _ => ?_) (fun _ => ?_) | (apply gT; (exact rfl)) | (apply off; (exact rfl); (exact rfl)) | (apply condT; (exact rfl)) | (apply condF; (exact rfl)) | ((first | (apply stp0; (exact rfl); (exact rfl)) | (apply stpN0; (exact rfl)) | apply gT | apply condT | ((first | apply bodyQ_d0 | apply bodyQ_d1 | apply bodyQ_d2 | apply bodyQ_d3 | apply bodyQ_d4); (exact .inr rfl); (rw [Try.results57]))); (first | (focus (simp only [go_sem, ↓reduceIte, simprocAttr] <;> rfl)) | exact rfl); (first | (fail_if_success (show okD _ _ _ _ _ _ _ _ _)) | (first | exact okT | exact okN | exact okE rfl)); (first | (fail_if_success (show Bel _ _)) | (focus first | exact .val _ | (simp [oneOf, Bel_iff_tup, Bel_iff_agg, Bel_iff_rsl, Bel_iff_fn, Bel_iff_rptr, Bel_val]; done)))) | refine thenQ_n ?_ | refine thenQ_r ?_ | refine thenQ_e ?_ | refine blockQ_n ?_ | refine blockQ_r ?_ | refine blockQ_e ?_ | (apply blockQ_o; (exact rfl)) | refine Awp.seq ?_ | refine Awp.skip ?_ | refine Awp.block ?_ | refine reg (fun s => false) ?_ | (apply drwE mixed (fun s => false); (kernel_rfl)) | refine fin ?_ | refine Awp.ret ?_ | refine Awp.exit ?_ | ((first | (apply off; (exact rfl)) | apply condF); (first | (focus (simp only [go_sem, ↓reduceIte, simprocAttr] <;> rfl)) | exact rfl)))
    all_goals first | contradiction | (exfalso; omega) | skip
    refine Awp.loop (ι := Nat) (fun _ T' H' => T' 7 = iv 0 ∧ T' 8 = iv 0 ∧ H' = H) (fun m => m) 0 ?_ ?_
    · refine ⟨?_, ?_, rfl⟩
      · (first | (focus (simp only [go_sem, ↓reduceIte, simprocAttr]; first | done | rfl)) | rfl)
      · (first | (focus (simp only [go_sem, ↓reduceIte, simprocAttr]; first | done | rfl)) | rfl)
    rintro m T H' ⟨t7, t8, hH⟩
    rw [hH]
    repeat' (first | refine spD (fun _ => ?_) (fun _ => ?_) | refine spF (fun _ => ?_) (fun _ => ?_) | (apply gT; (exact rfl)) | (apply off; (exact rfl); (exact rfl)) | (apply condT; (exact rfl)) | (apply condF; (exact rfl)) | ((first | (apply stp0; (exact rfl); (exact rfl)) | (apply stpN0; (exact rfl)) | apply gT | apply condT | ((first | apply bodyQ_d0 | apply bodyQ_d1 | apply bodyQ_d2 | apply bodyQ_d3 | apply bodyQ_d4); (exact .inr rfl); (rw [Try.results57]))); (first | (focus (simp only [go_sem, ↓reduceIte, simprocAttr, t7, t8] <;> rfl)) | exact rfl); (first | (fail_if_success (show okD _ _ _ _ _ _ _ _ _)) | (first | exact okT | exact okN | exact okE rfl)); (first | (fail_if_success (show Bel _ _)) | (focus first | exact .val _ | (simp [oneOf, Bel_iff_tup, Bel_iff_agg, Bel_iff_rsl, Bel_iff_fn, Bel_iff_rptr, Bel_val]; done)))) | refine thenQ_n ?_ | refine thenQ_r ?_ | refine thenQ_e ?_ | refine blockQ_n ?_ | refine blockQ_r ?_ | refine blockQ_e ?_ | (apply blockQ_o; (exact rfl)) | refine Awp.seq ?_ | refine Awp.skip ?_ | refine Awp.block ?_ | refine reg (fun s => false) ?_ | (apply drwE mixed (fun s => false); (kernel_rfl)) | refine fin ?_ | refine Awp.ret ?_ | refine Awp.exit ?_ | ((first | (apply off; (exact rfl)) | apply condF); (first | (focus (simp only [go_sem, ↓reduceIte, simprocAttr, t7, t8] <;> rfl)) | exact rfl)))
    all_goals first | contradiction | (exfalso; omega) | rfl | skip
  | emp =>
    have : a = 0 := by simp at hil; omega
    subst this
    simp only [Item.cs]
    refine ACalls.of_body Try.func57 rfl (by kernel_rfl) (by rw [Try.ntmps57]; simp) ?_; rw [Try.ntmps57]
    repeat' (first | refine spD (fun _ => ?_) (fun _ => ?_) | refine spF (fun _ => ?_) (fun _ => ?_) | (apply gT; (exact rfl)) | (apply off; (exact rfl); (exact rfl)) | (apply condT; (exact rfl)) | (apply condF; (exact rfl)) | ((first | (apply stp0; (exact rfl); (exact rfl)) | (apply stpN0; (exact rfl)) | apply gT | apply condT | ((first | apply bodyQ_d0 | apply bodyQ_d1 | apply bodyQ_d2 | apply bodyQ_d3 | apply bodyQ_d4); (exact .inr rfl); (rw [Try.results57]))); (first | (focus (simp only [go_sem, ↓reduceIte, simprocAttr] <;> rfl)) | exact rfl); (first | (fail_if_success (show okD _ _ _ _ _ _ _ _ _)) | (first | exact okT | exact okN | exact okE rfl)); (first | (fail_if_success (show Bel _ _)) | (focus first | exact .val _ | (simp [oneOf, Bel_iff_tup, Bel_iff_agg, Bel_iff_rsl, Bel_iff_fn, Bel_iff_rptr, Bel_val]; done)))) | refine thenQ_n ?_ | refine thenQ_r ?_ | refine thenQ_e ?_ | refine blockQ_n ?_ | refine blockQ_r ?_ | refine blockQ_e ?_ | (apply blockQ_o; (exact rfl)) | refine Awp.seq ?_ | refine Awp.skip ?_ | refine Awp.block ?_ | refine reg (fun s => false) ?_ | (apply drwE mixed (fun s => false); (kernel_rfl)) | refine fin ?_ | refine Awp.ret ?_ | refine Awp.exit ?_ | ((first | (apply off; (exact rfl)) | apply condF); (first | (focus (simp only [go_sem, ↓reduceIte, simprocAttr] <;> rfl)) | exact rfl)))
    all_goals first | contradiction | (exfalso; omega) | skip
    refine Awp.loop (ι := Nat) (fun _ T' H' => T' 7 = iv 0 ∧ T' 8 = iv 0 ∧ H' = H) (fun m => m) 0 ?_ ?_
    · refine ⟨?_, ?_, rfl⟩
      · (first | (focus (simp only [go_sem, ↓reduceIte, simprocAttr]; first | done | rfl)) | rfl)
      · (first | (focus (simp only [go_sem, ↓reduceIte, simprocAttr]; first | done | rfl)) | rfl)
    rintro m T H' ⟨t7, t8, hH⟩
    rw [hH]
    repeat' (first | refine spD (fun _ => ?_) (fun _ => ?_) | refine spF (fun _ => ?_) (fun _ => ?_) | (apply gT; (exact rfl)) | (apply off; (exact rfl); (exact rfl)) | (apply condT; (exact rfl)) | (apply condF; (exact rfl)) | ((first | (apply stp0; (exact rfl); (exact rfl)) | (apply stpN0; (exact rfl)) | apply gT | apply condT | ((first | apply bodyQ_d0 | apply bodyQ_d1 | apply bodyQ_d2 | apply bodyQ_d3 | apply bodyQ_d4); (exact .inr rfl); (rw [Try.results57]))); (first | (focus (simp only [go_sem, ↓reduceIte, simprocAttr, t7, t8] <;> rfl)) | exact rfl); (first | (fail_if_success (show okD _ _ _ _ _ _ _ _ _)) | (first | exact okT | exact okN | exact okE rfl)); (first | (fail_if_success (show Bel _ _)) | (focus first | exact .val _ | (simp [oneOf, Bel_iff_tup, Bel_iff_agg, Bel_iff_rsl, Bel_iff_fn, Bel_iff_rptr, Bel_val]; done)))) | refine thenQ_n ?_ | refine thenQ_r ?_ | refine thenQ_e ?_ | refine blockQ_n ?_ | refine blockQ_r ?_ | refine blockQ_e ?_ | (apply blockQ_o; (exact rfl)) | refine Awp.seq ?_ | refine Awp.skip ?_ | refine Awp.block ?_ | refine reg (fun s => false) ?_ | (apply drwE mixed (fun s => false); (kernel_rfl)) | refine fin ?_ | refine Awp.ret ?_ | refine Awp.exit ?_ | ((first | (apply off; (exact rfl)) | apply condF); (first | (focus (simp only [go_sem, ↓reduceIte, simprocAttr, t7, t8] <;> rfl)) | exact rfl)))
    all_goals first | contradiction | (exfalso; omega) | rfl | skip
  | row hb hn h0 =>
    rename_i o n v
    have hvl := ints_len v
    rw [List.length_take, Nat.min_eq_left hn] at hil
    simp only [Item.cs]
    refine ACalls.of_body Try.func57 rfl (by kernel_rfl) (by rw [Try.ntmps57]; simp) ?_; rw [Try.ntmps57]
    repeat' (first | refine spD (fun _ => ?_) (fun _ => ?_) | refine spF (fun _ => ?_) (fun _ => ?_) | (apply gT; (exact rfl)) | (apply off; (exact rfl); (exact rfl)) | (apply condT; (exact rfl)) | (apply condF; (exact rfl)) | ((first | (apply stp0; (exact rfl); (exact rfl)) | (apply stpN0; (exact rfl)) | apply gT | apply condT | ((first | apply bodyQ_d0 | apply bodyQ_d1 | apply bodyQ_d2 | apply bodyQ_d3 | apply bodyQ_d4); (exact .inr rfl); (rw [Try.results57]))); (first | (focus (simp only [go_sem, ↓reduceIte, simprocAttr] <;> rfl)) | exact rfl); (first | (fail_if_success (show okD _ _ _ _ _ _ _ _ _)) | (first | exact okT | exact okN | exact okE rfl)); (first | (fail_if_success (show Bel _ _)) | (focus first | exact .val _ | (simp [oneOf, Bel_iff_tup, Bel_iff_agg, Bel_iff_rsl, Bel_iff_fn, Bel_iff_rptr, Bel_val]; done)))) | refine thenQ_n ?_ | refine thenQ_r ?_ | refine thenQ_e ?_ | refine blockQ_n ?_ | refine blockQ_r ?_ | refine blockQ_e ?_ | (apply blockQ_o; (exact rfl)) | refine Awp.seq ?_ | refine Awp.skip ?_ | refine Awp.block ?_ | refine reg (fun s => false) ?_ | (apply drwE mixed (fun s => false); (kernel_rfl)) | refine fin ?_ | refine Awp.ret ?_ | refine Awp.exit ?_ | ((first | (apply off; (exact rfl)) | apply condF); (first | (focus (simp only [go_sem, ↓reduceIte, simprocAttr] <;> rfl)) | exact rfl)))
    all_goals first | contradiction | (exfalso; omega) | skip
    refine Awp.loop (ι := Nat × Nat) (fun q T' H' => q.1 ≤ a ∧ a ≤ q.2 ∧ q.2 ≤ n ∧ T' 7 = iv q.1 ∧ T' 8 = iv q.2 ∧ T' 0 = .msl o 0 n ∧ T' 2 = .fn (.func 58) [.rptr [.mptr F.b 0 0] 0] ∧ T' 4 = .rptr [iv r.id, iv r.cls, iv r.made, iv r.size, iv r.pk] 0 ∧ H' = H) (fun q => q.2 - q.1) (0, n) ?_ ?_
    · refine ⟨Nat.zero_le _, by omega, Nat.le_refl _, ?_, ?_, ?_, ?_, ?_, rfl⟩
      · (first | (focus (simp only [go_sem, ↓reduceIte, simprocAttr]; first | done | rfl)) | rfl)
      · (first | (focus (simp only [go_sem, ↓reduceIte, simprocAttr]; first | done | rfl)) | rfl)
      · (first | (focus (simp only [go_sem, ↓reduceIte, simprocAttr]; first | done | rfl)) | rfl)
      · (first | (focus (simp only [go_sem, ↓reduceIte, simprocAttr]; first | done | rfl)) | rfl)
      · (first | (focus (simp only [go_sem, ↓reduceIte, simprocAttr]; first | done | rfl)) | rfl)
    rintro ⟨lo, hi⟩ T H' ⟨h1, h2, h3, t7, t8, t0, t2, t4, hH⟩
    rw [hH]
    simp only at h1 h2 h3 t7 t8
    by_cases hlt : lo < hi
    · have hml : lo ≤ (lo + hi) / 2 ∧ (lo + hi) / 2 < hi := by omega
      have w1 : IntKind.i64.wrap ((lo : Int) + (hi : Int)) = (lo : Int) + (hi : Int) := w64 (by omega) (by omega)
      have hh := half_nat lo hi
      have w2 : IntKind.i64.wrap ((((lo + hi) / 2 : Nat) : Int)) = (((lo + hi) / 2 : Nat) : Int) := w64 (by omega) (by omega)
      have w3 : IntKind.i64.wrap ((((lo + hi) / 2 : Nat) : Int) + 1) = ((((lo + hi) / 2 + 1 : Nat)) : Int) := by rw [w64 (by omega) (by omega)]; omega
      generalize (lo + hi) / 2 = m at *
      obtain ⟨h, hm⟩ := nth (l := S.L) (i := m) (by omega)
      have hidm : (v.take n)[m]? = some h.r.id := by rw [hids]; unfold idsL; rw [List.getElem?_map, hm]; rfl
      have hvm : (ints v)[m]? = some [iv h.r.id] := by
        rw [List.getElem?_take, if_pos (by omega)] at hidm
        exact nthMap (fun x => [iv x]) hidm
      have hmn : m < n := by omega
      have hpc := fun H' (hw : RepW H' F w) => put1_ok hw h.r.id h.r r (by rw [hR.mr.get]; unfold recF; rw [findH_at hg.nd hm]; rfl)
      have hpc := hpc H hR.raw
      have hpm := hp m h hm
      simp only [Item.cs] at hpc
      have hlt' := Int.ofNat_lt.2 hlt
      generalize cmpR h.r r = cv at *
      by_cases hc : cv < 0
      · have := hpm.1 hc
        repeat' (first | refine spD (fun _ => ?_) (fun _ => ?_) | refine spF (fun _ => ?_) (fun _ => ?_) | (apply gT; (exact rfl)) | (apply off; (exact rfl); (exact rfl)) | (apply condT; (exact rfl)) | (apply condF; (exact rfl)) | ((first | (apply stp0; (exact rfl); (exact rfl)) | (apply stpN0; (exact rfl)) | apply gT | apply condT | ((first | apply bodyQ_d0 | apply bodyQ_d1 | apply bodyQ_d2 | apply bodyQ_d3 | apply bodyQ_d4); (exact .inr rfl); (rw [Try.results57]))); (first | (focus (simp only [go_sem, ↓reduceIte, simprocAttr, hlt', t7, t8, t0, t2, t4, w1, hh, w2, w3, hb, hvl, hvm, hmn, Nat.zero_add, hc, ne_eq, not_false_eq_true] <;> rfl)) | exact rfl); (first | (fail_if_success (show okD _ _ _ _ _ _ _ _ _)) | (first | exact okT | exact okN | exact okE rfl)); (first | (fail_if_success (show Bel _ _)) | (focus first | exact .val _ | (simp [oneOf, Bel_iff_tup, Bel_iff_agg, Bel_iff_rsl, Bel_iff_fn, Bel_iff_rptr, Bel_val]; done)))) | (apply calTo0; (exact rfl); (iterate 2 (simp only [go_sem, ↓reduceIte, simprocAttr, hlt', t7, t8, t0, t2, t4, w1, hh, w2, w3, hb, hvl, hvm, hmn, Nat.zero_add, hc, ne_eq, not_false_eq_true]; rfl)); (first | exact hpc); (first | exact okT | exact okN | exact okE rfl)) | refine thenQ_n ?_ | refine thenQ_r ?_ | refine thenQ_e ?_ | refine blockQ_n ?_ | refine blockQ_r ?_ | refine blockQ_e ?_ | (apply blockQ_o; (exact rfl)) | refine Awp.seq ?_ | refine Awp.skip ?_ | refine Awp.block ?_ | refine reg (fun s => false) ?_ | (apply drwE mixed (fun s => false); (kernel_rfl)) | refine fin ?_ | refine Awp.ret ?_ | refine Awp.exit ?_ | ((first | (apply off; (exact rfl)) | apply condF); (first | (focus (simp only [go_sem, ↓reduceIte, simprocAttr, hlt', t7, t8, t0, t2, t4, w1, hh, w2, w3, hb, hvl, hvm, hmn, Nat.zero_add, hc, ne_eq, not_false_eq_true] <;> rfl)) | exact rfl)))
        all_goals first | contradiction | (exfalso; omega) | skip
        refine ⟨(m + 1, hi), ⟨by simp only; omega, h2, h3, ?_, ?_, ?_, ?_, ?_, rfl⟩, by simp only; omega⟩
        · (first | (focus (simp only [go_sem, ↓reduceIte, simprocAttr, w3]; first | done | rfl)) | rfl)
        · (first | (focus (simp only [go_sem, ↓reduceIte, simprocAttr, t8]; first | done | rfl)) | rfl)
        · (first | (focus (simp only [go_sem, ↓reduceIte, simprocAttr, t0]; first | done | rfl)) | rfl)
        · (first | (focus (simp only [go_sem, ↓reduceIte, simprocAttr, t2]; first | done | rfl)) | rfl)
        · (first | (focus (simp only [go_sem, ↓reduceIte, simprocAttr, t4]; first | done | rfl)) | rfl)
      · have : ¬ m < a := fun k => hc (hpm.2 k)
        repeat' (first | refine spD (fun _ => ?_) (fun _ => ?_) | refine spF (fun _ => ?_) (fun _ => ?_) | (apply gT; (exact rfl)) | (apply off; (exact rfl); (exact rfl)) | (apply condT; (exact rfl)) | (apply condF; (exact rfl)) | ((first | (apply stp0; (exact rfl); (exact rfl)) | (apply stpN0; (exact rfl)) | apply gT | apply condT | ((first | apply bodyQ_d0 | apply bodyQ_d1 | apply bodyQ_d2 | apply bodyQ_d3 | apply bodyQ_d4); (exact .inr rfl); (rw [Try.results57]))); (first | (focus (simp only [go_sem, ↓reduceIte, simprocAttr, hlt', t7, t8, t0, t2, t4, w1, hh, w2, w3, hb, hvl, hvm, hmn, Nat.zero_add, hc, ne_eq, not_false_eq_true] <;> rfl)) | exact rfl); (first | (fail_if_success (show okD _ _ _ _ _ _ _ _ _)) | (first | exact okT | exact okN | exact okE rfl)); (first | (fail_if_success (show Bel _ _)) | (focus first | exact .val _ | (simp [oneOf, Bel_iff_tup, Bel_iff_agg, Bel_iff_rsl, Bel_iff_fn, Bel_iff_rptr, Bel_val]; done)))) | (apply calTo0; (exact rfl); (iterate 2 (simp only [go_sem, ↓reduceIte, simprocAttr, hlt', t7, t8, t0, t2, t4, w1, hh, w2, w3, hb, hvl, hvm, hmn, Nat.zero_add, hc, ne_eq, not_false_eq_true]; rfl)); (first | exact hpc); (first | exact okT | exact okN | exact okE rfl)) | refine thenQ_n ?_ | refine thenQ_r ?_ | refine thenQ_e ?_ | refine blockQ_n ?_ | refine blockQ_r ?_ | refine blockQ_e ?_ | (apply blockQ_o; (exact rfl)) | refine Awp.seq ?_ | refine Awp.skip ?_ | refine Awp.block ?_ | refine reg (fun s => false) ?_ | (apply drwE mixed (fun s => false); (kernel_rfl)) | refine fin ?_ | refine Awp.ret ?_ | refine Awp.exit ?_ | ((first | (apply off; (exact rfl)) | apply condF); (first | (focus (simp only [go_sem, ↓reduceIte, simprocAttr, hlt', t7, t8, t0, t2, t4, w1, hh, w2, w3, hb, hvl, hvm, hmn, Nat.zero_add, hc, ne_eq, not_false_eq_true] <;> rfl)) | exact rfl)))
        all_goals first | contradiction | (exfalso; omega) | skip
        refine ⟨(lo, m), ⟨h1, by simp only; omega, by simp only; omega, ?_, ?_, ?_, ?_, ?_, rfl⟩, by simp only; omega⟩
        · (first | (focus (simp only [go_sem, ↓reduceIte, simprocAttr, t7]; first | done | rfl)) | rfl)
        · (first | (focus (simp only [go_sem, ↓reduceIte, simprocAttr]; first | done | rfl)) | rfl)
        · (first | (focus (simp only [go_sem, ↓reduceIte, simprocAttr, t0]; first | done | rfl)) | rfl)
        · (first | (focus (simp only [go_sem, ↓reduceIte, simprocAttr, t2]; first | done | rfl)) | rfl)
        · (first | (focus (simp only [go_sem, ↓reduceIte, simprocAttr, t4]; first | done | rfl)) | rfl)
    · have e1 : lo = a := by omega
      have e2 : hi = a := by omega
      subst e1; subst e2
      repeat' (first | refine spD (fun _ => ?_) (fun _ => ?_) | refine spF (fun _ => ?_) (fun _ => ?_) | (apply gT; (exact rfl)) | (apply off; (exact rfl); (exact rfl)) | (apply condT; (exact rfl)) | (apply condF; (exact rfl)) | ((first | (apply stp0; (exact rfl); (exact rfl)) | (apply stpN0; (exact rfl)) | apply gT | apply condT | ((first | apply bodyQ_d0 | apply bodyQ_d1 | apply bodyQ_d2 | apply bodyQ_d3 | apply bodyQ_d4); (exact .inr rfl); (rw [Try.results57]))); (first | (focus (simp only [go_sem, ↓reduceIte, simprocAttr, Int.lt_irrefl, t7, t8] <;> rfl)) | exact rfl); (first | (fail_if_success (show okD _ _ _ _ _ _ _ _ _)) | (first | exact okT | exact okN | exact okE rfl)); (first | (fail_if_success (show Bel _ _)) | (focus first | exact .val _ | (simp [oneOf, Bel_iff_tup, Bel_iff_agg, Bel_iff_rsl, Bel_iff_fn, Bel_iff_rptr, Bel_val]; done)))) | refine thenQ_n ?_ | refine thenQ_r ?_ | refine thenQ_e ?_ | refine blockQ_n ?_ | refine blockQ_r ?_ | refine blockQ_e ?_ | (apply blockQ_o; (exact rfl)) | refine Awp.seq ?_ | refine Awp.skip ?_ | refine Awp.block ?_ | refine reg (fun s => false) ?_ | (apply drwE mixed (fun s => false); (kernel_rfl)) | refine fin ?_ | refine Awp.ret ?_ | refine Awp.exit ?_ | ((first | (apply off; (exact rfl)) | apply condF); (first | (focus (simp only [go_sem, ↓reduceIte, simprocAttr, Int.lt_irrefl, t7, t8] <;> rfl)) | exact rfl)))
      all_goals first | contradiction | (exfalso; omega) | rfl | skip

/-- a number put into a row -/
def insA {α : Type} (a : Nat) (x : α) (l : List α) : List α := l.take a ++ x :: l.drop a

set_option maxRecDepth 8000 in
theorem insert_emp (H : Hp) (vb : Nat) (y : AV) (hvb : H[vb]? = some (.cells [[y]] 2)) : CallsTo Try.prog 59 [.rsl [] true, .val (.int .i64 0), .msl vb 0 1] H (.msl H.length 0 1) (H ++ [.cells [[y]] 2]) := by
  refine ACalls.of_body Try.func59 rfl (by kernel_rfl) (by rw [Try.ntmps59]; simp) ?_; rw [Try.ntmps59]
  repeat' (first | refine spD (fun _ => ?_) (fun _ => ?_) | refine spF (fun _ => ?_) (fun _ => ?_) | (apply gT; (exact rfl)) | (apply off; (exact rfl); (exact rfl)) | (apply condT; (exact rfl)) | (apply condF; (exact rfl)) | ((first | (apply stp0; (exact rfl); (exact rfl)) | (apply stpN0; (exact rfl)) | apply gT | apply condT | ((first | apply bodyQ_d0 | apply bodyQ_d1 | apply bodyQ_d2 | apply bodyQ_d3 | apply bodyQ_d4); (exact .inr rfl); (rw [Try.results59]))); (first | (focus (simp only [go_sem, ↓reduceIte, simprocAttr, hvb] <;> rfl)) | exact rfl); (first | (fail_if_success (show okD _ _ _ _ _ _ _ _ _)) | (first | exact okT | exact okN | exact okE rfl)); (first | (fail_if_success (show Bel _ _)) | (focus first | exact .val _ | (simp [oneOf, Bel_iff_tup, Bel_iff_agg, Bel_iff_rsl, Bel_iff_fn, Bel_iff_rptr, Bel_val]; done)))) | refine thenQ_n ?_ | refine thenQ_r ?_ | refine thenQ_e ?_ | refine blockQ_n ?_ | refine blockQ_r ?_ | refine blockQ_e ?_ | (apply blockQ_o; (exact rfl)) | refine Awp.seq ?_ | refine Awp.skip ?_ | refine Awp.block ?_ | refine reg (fun s => false) ?_ | (apply drwE mixed (fun s => false); (kernel_rfl)) | refine fin ?_ | refine Awp.ret ?_ | refine Awp.exit ?_ | ((first | (apply off; (exact rfl)) | apply condF); (first | (focus (simp only [go_sem, ↓reduceIte, simprocAttr, hvb] <;> rfl)) | exact rfl)))
  all_goals first | (exfalso; omega) | skip
  refine bodyQ_mk (vs := [.msl H.length 0 1]) (.inr rfl) ?_ (Vs.refl _ _ _) ?_
  · (rw [Try.results59]; first | (simp only [go_sem, ↓reduceIte, simprocAttr]; done) | (simp only [go_sem, ↓reduceIte, simprocAttr]; rfl))
  · exact ⟨rfl, rfl⟩

theorem insert_ok {H : Hp} {ord : AV} {ids : List Int} (hO : OrdAt H ord ids) {vb : Nat} {y : Int} (hvb : H[vb]? = some (.cells [[iv y]] 2)) (hne : ∀ o n, ord = .msl o 0 n → o ≠ vb) (a : Nat) (ha : a ≤ ids.length) (hl : ids.length ≤ 1000) :
    CallsTo Try.prog 59 [ord, iv a, .msl vb 0 1] H (.msl H.length 0 (ids.length + 1)) (ownK H ord ++ [.cells (ints (insA a y ids)) 2]) := by
  cases hO with
  | nil =>
    have : a = 0 := by simpa using ha
    subst this
    exact insert_nil H vb _ hvb
  | emp =>
    have : a = 0 := by simpa using ha
    subst this
    exact insert_emp H vb _ hvb
  | row hb hn h0 =>
    rename_i o n v
    have hlen : (v.take n).length = n := by rw [List.length_take]; omega
    have hvl := ints_len v
    rw [hlen] at ha hl ⊢
    have hall : (ints v).all (fun e => e.length == 1) = true := by rw [List.all_eq_true]; intro e he; obtain ⟨x, _, rfl⟩ := List.mem_map.1 he; rfl
    have hcell : (ints v).all (fun e => e.all AV.isCell) = true := by rw [List.all_eq_true]; intro e he; obtain ⟨x, _, rfl⟩ := List.mem_map.1 he; rfl
    by_cases hlt : a < n
    · have h := insert_mid H o n a vb (ints v) (iv y) hb hvb (hne _ _ rfl) hlt (by rw [hvl]; exact hn) hall hcell rfl (by omega)
      have e : ((ints v).take n).take a ++ [[iv y]] ++ ((ints v).take n).drop a = ints (insA a y (v.take n)) := by simp [ints, insA, List.map_take, List.map_drop]
      rw [e] at h
      exact h
    · have : a = n := by omega
      subst this
      have h := insert_end H o a vb (ints v) y hb hvb (by rw [hvl]; exact hn) (by rw [hvl]; exact h0) hall (by omega)
      have e : (ints v).take a ++ [[iv y]] = ints (insA a y (v.take a)) := by
        have e1 : (v.take a).take a = v.take a := List.take_of_length_le (Nat.le_of_eq hlen)
        have e2 : (v.take a).drop a = [] := List.drop_of_length_le (Nat.le_of_eq hlen)
        unfold insA
        rw [e1, e2]
        simp [ints, List.map_take]
      rw [e] at h
      exact h

end Go.Proofs.Ytlhchnnfgppneaa.Ab
