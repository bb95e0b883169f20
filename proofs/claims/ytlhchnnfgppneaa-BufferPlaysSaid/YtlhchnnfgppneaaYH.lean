/- Buffers: where a record goes; slices.Insert of one number. Buffers: what Put does, plain. Buffers: what Put comes to. Buffers: Put, from where the record goes into the order. Buffers: Put, its loop. -/
import Derived.Test.YtlhchnnfgppneaaYG
namespace Go.Proofs.Ytlhchnnfgppneaa.Ab
open Go Go.RowKit Go.Proofs
set_option linter.unusedSimpArgs false
set_option linter.unusedVariables false
attribute [local irreducible] Awp wpO thenQ blockQ bodyQ ACalls stepA

set_option maxRecDepth 8000 in
theorem put1_ok {H : Hp} {F : Ft} {w : Rw} (h : RepW H F w) (id : Int) (x r : Item) (h1 : getM w.kr id = some (.agg x.cs)) :
    CallsTo Try.prog 58 [iv id, .agg r.cs, .rptr [.mptr F.b 0 0] 0] H (iv (cmpR x r)) H := by
  have hb := h.hb
  simp only [Rw.cs] at hb
  have l1 := (mT40.look0 h.hr id).2
  rw [h1] at l1
  simp only [Option.getD_some, Item.cs] at l1
  have hc := fun H => compare_ok H x r
  simp only [Item.cs] at hc ⊢
  refine ACalls.of_body Try.func58 rfl (by kernel_rfl) (by rw [Try.ntmps58]; simp) ?_; rw [Try.ntmps58]
  repeat' (first | refine spD (fun _ => ?_) (fun _ => ?_) | refine spF (fun _ => ?_) (fun _ => ?_) | (apply gT; (exact rfl)) | (apply off; (exact rfl); (exact rfl)) | (apply condT; (exact rfl)) | (apply condF; (exact rfl)) | ((first | (apply stp0; (exact rfl); (exact rfl)) | (apply stpN0; (exact rfl)) | apply gT | apply condT | ((first | apply bodyQ_d0 | apply bodyQ_d1 | apply bodyQ_d2 | apply bodyQ_d3 | apply bodyQ_d4); (exact .inr rfl); (rw [Try.results58]))); (first | (focus (simp only [go_sem, ↓reduceIte, simprocAttr, hb, l1] <;> rfl)) | exact rfl); (first | (fail_if_success (show okD _ _ _ _ _ _ _ _ _)) | (first | exact okT | exact okN | exact okE rfl)); (first | (fail_if_success (show Bel _ _)) | (focus first | exact .val _ | (simp [oneOf, Bel_iff_tup, Bel_iff_agg, Bel_iff_rsl, Bel_iff_fn, Bel_iff_rptr, Bel_val]; done)))) | (apply calTo0; (exact rfl); (iterate 2 (simp only [go_sem, ↓reduceIte, simprocAttr, hb, l1]; rfl)); (first | exact hc _); (first | exact okT | exact okN | exact okE rfl)) | refine thenQ_n ?_ | refine thenQ_r ?_ | refine thenQ_e ?_ | refine blockQ_n ?_ | refine blockQ_r ?_ | refine blockQ_e ?_ | (apply blockQ_o; (exact rfl)) | refine Awp.seq ?_ | refine Awp.skip ?_ | refine Awp.block ?_ | refine reg (fun s => false) ?_ | (apply drwE mixed (fun s => false); (kernel_rfl)) | refine fin ?_ | refine Awp.ret ?_ | refine Awp.exit ?_ | ((first | (apply off; (exact rfl)) | apply condF); (first | (focus (simp only [go_sem, ↓reduceIte, simprocAttr, hb, l1] <;> rfl)) | exact rfl)))
  all_goals first | rfl | contradiction | (exfalso; omega) | skip

theorem half_nat (a b : Nat) : ((a : Int) + (b : Int)).tdiv 2 = (((a + b) / 2 : Nat) : Int) := by
  rw [Int.tdiv_eq_ediv_of_nonneg (by omega)]; omega

set_option maxRecDepth 8000 in
set_option maxHeartbeats 4000000 in
theorem place_ok {H : Hp} {F : Ft} {w : Rw} {S : Bf} (hR : Rep H F w S) (hg : Good S) (r : Item) (a : Nat) (ha : a ≤ S.L.length) (hp : ∀ i h, S.L[i]? = some h → (cmpR h.r r < 0 ↔ i < a)) :
    CallsTo Try.prog 57 [w.ord, .agg r.cs, .fn (.func 58) [.rptr [.mptr F.b 0 0] 0]] H (iv a) H := by
  have hil : (idsL S.L).length = S.L.length := by simp [idsL]
  have hlm := hg.len
  obtain ⟨ids, hids⟩ : ∃ ids, ids = idsL S.L := ⟨_, rfl⟩
  have hO := hR.ord
  rw [← hids] at hO hil
  obtain ⟨ord, hord⟩ : ∃ ord, ord = w.ord := ⟨_, rfl⟩
  rw [← hord] at hO ⊢
  cases hO with
  | nil =>
    have : a = 0 := by simp at hil; omega
    subst this
    simp only [Item.cs]
    refine ACalls.of_body Try.func57 rfl (by kernel_rfl) (by rw [Try.ntmps57]; simp) ?_; rw [Try.ntmps57]
    repeat' (first | refine spD (fun _ => ?_) (fun _ => ?_) | refine spF (fun _ => ?_) (fun _ => ?_) | (apply gT; (exact rfl)) | (apply off; (exact rfl); (exact rfl)) | (apply condT; (exact rfl)) | (apply condF; (exact rfl)) | ((first | (apply stp0; (exact rfl); (exact rfl)) | (apply stpN0; (exact rfl)) | apply gT | apply condT | ((first | apply bodyQ_d0 | apply bodyQ_d1 | apply bodyQ_d2 | apply bodyQ_d3 | apply bodyQ_d4); (exact .inr rfl); (rw [Try.results57]))); (first | (focus (simp only [go_sem, ↓reduceIte, simprocAttr] <;> rfl)) | exact rfl); (first | (fail_if_success (show okD _ _ _ _ _ _ _ _ _)) | (first | exact okT | exact okN | exact okE rfl)); (first | (fail_if_success (show Bel _ _)) | (focus first | exact .val _ | (simp [oneOf, Bel_iff_tup, Bel_iff_agg, Bel_iff_rsl, Bel_iff_fn, Bel_iff_rptr, Bel_val]; done)))) | refine thenQ_n ?_ | refine thenQ_r ?_ | refine thenQ_e ?_ | refine blockQ_n ?_ | refine blockQ_r ?_ | refine blockQ_e ?_ | (apply blockQ_o; (exact rfl)) | refine Awp.seq ?_ | refine Awp.skip ?_ | refine Awp.block ?_ | refine reg (fun s => false) ?_ | (apply drwE mixed (fun s => false); (kernel_rfl)) | refine fin ?_ | refine Awp.ret ?_ | refine Awp.exit ?_ | ((first | (apply off; (exact rfl)) | apply condF); (first | (focus (simp only [go_sem, ↓reduceIte, simprocAttr] <;> rfl)) | exact rfl)))
    all_goals first | contradiction | (exfalso; omega) | skip
    refine Awp.loop (ι := Nat) (fun _ T' H' => T' 7 = iv 0 ∧ T' 8 = iv 0 ∧ H' = H) (fun m => m) 0 ?_ ?_
    · refine ⟨?_, ?_, rfl⟩
      · (first | (focus (simp only [go_sem, ↓reduceIte, simprocAttr]; first | done | rfl)) | rfl)
      · (first | (focus (simp only [go_sem, ↓reduceIte, simprocAttr]; first | done | rfl)) | rfl)
    rintro m T H' ⟨t7, t8, hH⟩
    rw [hH]
    repeat' (first | refine spD (fun _ => ?_) (fun _ => ?_) | refine spF (fun _ => ?_) (fun _ => ?_) | (apply gT; (exact rfl)) | (apply off; (exact rfl); (exact rfl)) | (apply condT; (exact rfl)) | (apply condF; (exact rfl)) | ((first | (apply stp0; (exact rfl); (exact rfl)) | (apply stpN0; (exact rfl)) | apply gT | apply condT | ((first | apply bodyQ_d0 | apply bodyQ_d1 | apply bodyQ_d2 | apply bodyQ_d3 | apply bodyQ_d4); (exact .inr rfl); (rw [Try.results57]))); (first | (focus (simp only [go_sem, ↓reduceIte, simprocAttr, t7, t8] <;> rfl)) | exact rfl); (first | (fail_if_success (show okD _ _ _ _ _ _ _ _ _)) | (first | exact okT | exact okN | exact okE rfl)); (first | (fail_if_success (show Bel _ _)) | (focus first | exact .val _ | (simp [oneOf, Bel_iff_tup, Bel_iff_agg, Bel_iff_rsl, Bel_iff_fn, Bel_iff_rptr, Bel_val]; done)))) | refine thenQ_n ?_ | refine thenQ_r ?_ | refine thenQ_e ?_ | refine blockQ_n ?_ | refine blockQ_r ?_ | refine blockQ_e ?_ | (apply blockQ_o; (exact rfl)) | refine Awp.seq ?_ | refine Awp.skip ?_ | refine Awp.block ?_ | refine reg (fun s => false) ?_ | (apply drwE mixed (fun s => false); (kernel_rfl)) | refine fin ?_ | refine Awp.ret ?_ | refine Awp.exit ?_ | ((first | (apply off; (exact rfl)) | apply condF); (first | (focus (simp only [go_sem, ↓reduceIte, simprocAttr, t7, t8] <;> rfl)) | exact rfl)))
    all_goals first | contradiction | (exfalso; omega) | rfl | skip
  | emp =>
    have : a = 0 := by simp at hil; omega
    subst this
    simp only [Item.cs]
    refine ACalls.of_body Try.func57 rfl (by kernel_rfl) (by rw [Try.ntmps57]; simp) ?_; rw [Try.ntmps57]
    repeat' (first | refine spD (fun _ => ?_) (fun _ => ?_) | refine spF (fun _ => ?_) (fun _ => ?_) | (apply gT; (exact rfl)) | (apply off; (exact rfl); (exact rfl)) | (apply condT; (exact rfl)) | (apply condF; (exact rfl)) | ((first | (apply stp0; (exact rfl); (exact rfl)) | (apply stpN0; (exact rfl)) | apply gT | apply condT | ((first | apply bodyQ_d0 | apply bodyQ_d1 | apply bodyQ_d2 | apply bodyQ_d3 | apply bodyQ_d4); (exact .inr rfl); (rw [Try.results57]))); (first | (focus (simp only [go_sem, ↓reduceIte, simprocAttr] <;> rfl)) | exact rfl); (first | (fail_if_success (show okD _ _ _ _ _ _ _ _ _)) | (first | exact okT | exact okN | exact okE rfl)); (first | (fail_if_success (show Bel _ _)) | (focus first | exact .val _ | (simp [oneOf, Bel_iff_tup, Bel_iff_agg, Bel_iff_rsl, Bel_iff_fn, Bel_iff_rptr, Bel_val]; done)))) | refine thenQ_n ?_ | refine thenQ_r ?_ | refine thenQ_e ?_ | refine blockQ_n ?_ | refine blockQ_r ?_ | refine blockQ_e ?_ | (apply blockQ_o; (exact rfl)) | refine Awp.seq ?_ | refine Awp.skip ?_ | refine Awp.block ?_ | refine reg (fun s => false) ?_ | (apply drwE mixed (fun s => false); (kernel_rfl)) | refine fin ?_ | refine Awp.ret ?_ | refine Awp.exit ?_ | ((first | (apply off; (exact rfl)) | apply condF); (first | (focus (simp only [go_sem, ↓reduceIte, simprocAttr] <;> rfl)) | exact rfl)))
    all_goals first | contradiction | (exfalso; omega) | skip
    refine Awp.loop (ι := Nat) (fun _ T' H' => T' 7 = iv 0 ∧ T' 8 = iv 0 ∧ H' = H) (fun m => m) 0 ?_ ?_
    · refine ⟨?_, ?_, rfl⟩
      · (first | (focus (simp only [go_sem, ↓reduceIte, simprocAttr]; first | done | rfl)) | rfl)
      · (first | (focus (simp only [go_sem, ↓reduceIte, simprocAttr]; first | done | rfl)) | rfl)
    rintro m T H' ⟨t7, t8, hH⟩
    rw [hH]
    repeat' (first | refine spD (fun _ => ?_) (fun _ => ?_) | refine spF (fun _ => ?_) (fun _ => ?_) | (apply gT; (exact rfl)) | (apply off; (exact rfl); (exact rfl)) | (apply condT; (exact rfl)) | (apply condF; (exact rfl)) | ((first | (apply stp0; (exact rfl); (exact rfl)) | (apply stpN0; (exact rfl)) | apply gT | apply condT | ((first | apply bodyQ_d0 | apply bodyQ_d1 | apply bodyQ_d2 | apply bodyQ_d3 | apply bodyQ_d4); (exact .inr rfl); (rw [Try.results57]))); (first | (focus (simp only [go_sem, ↓reduceIte, simprocAttr, t7, t8] <;> rfl)) | exact rfl); (first | (fail_if_success (show okD _ _ _ _ _ _ _ _ _)) | (first | exact okT | exact okN | exact okE rfl)); (first | (fail_if_success (show Bel _ _)) | (focus first | exact .val _ | (simp [oneOf, Bel_iff_tup, Bel_iff_agg, Bel_iff_rsl, Bel_iff_fn, Bel_iff_rptr, Bel_val]; done)))) | refine thenQ_n ?_ | refine thenQ_r ?_ | refine thenQ_e ?_ | refine blockQ_n ?_ | refine blockQ_r ?_ | refine blockQ_e ?_ | (apply blockQ_o; (exact rfl)) | refine Awp.seq ?_ | refine Awp.skip ?_ | refine Awp.block ?_ | refine reg (fun s => false) ?_ | (apply drwE mixed (fun s => false); (kernel_rfl)) | refine fin ?_ | refine Awp.ret ?_ | refine Awp.exit ?_ | ((first | (apply off; (exact rfl)) | apply condF); (first | (focus (simp only [go_sem, ↓reduceIte, simprocAttr, t7, t8] <;> rfl)) | exact rfl)))
    all_goals first | contradiction | (exfalso; omega) | rfl | skip
  | row hb hn h0 =>
    rename_i o n v
    have hvl := ints_len v
    rw [List.length_take, Nat.min_eq_left hn] at hil
    simp only [Item.cs]
    refine ACalls.of_body Try.func57 rfl (by kernel_rfl) (by rw [Try.ntmps57]; simp) ?_; rw [Try.ntmps57]
    repeat' (first | refine spD (fun _ => ?_) (fun _ => ?_) | refine spF (fun _ => ?_) (fun _ => ?_) | (apply gT; (exact rfl)) | (apply off; (exact rfl); (exact rfl)) | (apply condT; (exact rfl)) | (apply condF; (exact rfl)) | ((first | (apply stp0; (exact rfl); (exact rfl)) | (apply stpN0; (exact rfl)) | apply gT | apply condT | ((first | apply bodyQ_d0 | apply bodyQ_d1 | apply bodyQ_d2 | apply bodyQ_d3 | apply bodyQ_d4); (exact .inr rfl); (rw [Try.results57]))); (first | (focus (simp only [go_sem, ↓reduceIte, simprocAttr] <;> rfl)) | exact rfl); (first | (fail_if_success (show okD _ _ _ _ _ _ _ _ _)) | (first | exact okT | exact okN | exact okE rfl)); (first | (fail_if_success (show Bel _ _)) | (focus first | exact .val _ | (simp [oneOf, Bel_iff_tup, Bel_iff_agg, Bel_iff_rsl, Bel_iff_fn, Bel_iff_rptr, Bel_val]; done)))) | refine thenQ_n ?_ | refine thenQ_r ?_ | refine thenQ_e ?_ | refine blockQ_n ?_ | refine blockQ_r ?_ | refine blockQ_e ?_ | (apply blockQ_o; (exact rfl)) | refine Awp.seq ?_ | refine Awp.skip ?_ | refine Awp.block ?_ | refine reg (fun s => false) ?_ | (apply drwE mixed (fun s => false); (kernel_rfl)) | refine fin ?_ | refine Awp.ret ?_ | refine Awp.exit ?_ | ((first | (apply off; (exact rfl)) | apply condF); (first | (focus (simp only [go_sem, ↓reduceIte, simprocAttr] <;> rfl)) | exact rfl)))
    all_goals first | contradiction | (exfalso; omega) | skip
    refine Awp.loop (ι := Nat × Nat) (fun q T' H' => q.1 ≤ a ∧ a ≤ q.2 ∧ q.2 ≤ n ∧ T' 7 = iv q.1 ∧ T' 8 = iv q.2 ∧ T' 0 = .msl o 0 n ∧ T' 2 = .fn (.func 58) [.rptr [.mptr F.b 0 0] 0] ∧ T' 4 = .rptr [iv r.id, iv r.cls, iv r.made, iv r.size, iv r.pk] 0 ∧ H' = H) (fun q => q.2 - q.1) (0, n) ?_ ?_
    · refine ⟨Nat.zero_le _, by omega, Nat.le_refl _, ?_, ?_, ?_, ?_, ?_, rfl⟩
      · (first | (focus (simp only [go_sem, ↓reduceIte, simprocAttr]; first | done | rfl)) | rfl)
      · (first | (focus (simp only [go_sem, ↓reduceIte, simprocAttr]; first | done | rfl)) | rfl)
      · (first | (focus (simp only [go_sem, ↓reduceIte, simprocAttr]; first | done | rfl)) | rfl)
      · (first | (focus (simp only [go_sem, ↓reduceIte, simprocAttr]; first | done | rfl)) | rfl)
      · (first | (focus (simp only [go_sem, ↓reduceIte, simprocAttr]; first | done | rfl)) | rfl)
    rintro ⟨lo, hi⟩ T H' ⟨h1, h2, h3, t7, t8, t0, t2, t4, hH⟩
    rw [hH]
    simp only at h1 h2 h3 t7 t8
    by_cases hlt : lo < hi
    · have hml : lo ≤ (lo + hi) / 2 ∧ (lo + hi) / 2 < hi := by omega
      have w1 : IntKind.i64.wrap ((lo : Int) + (hi : Int)) = (lo : Int) + (hi : Int) := w64 (by omega) (by omega)
      have hh := half_nat lo hi
      have w2 : IntKind.i64.wrap ((((lo + hi) / 2 : Nat) : Int)) = (((lo + hi) / 2 : Nat) : Int) := w64 (by omega) (by omega)
      have w3 : IntKind.i64.wrap ((((lo + hi) / 2 : Nat) : Int) + 1) = ((((lo + hi) / 2 + 1 : Nat)) : Int) := by rw [w64 (by omega) (by omega)]; omega
      generalize (lo + hi) / 2 = m at *
      obtain ⟨h, hm⟩ := nth (l := S.L) (i := m) (by omega)
      have hidm : (v.take n)[m]? = some h.r.id := by rw [hids]; unfold idsL; rw [List.getElem?_map, hm]; rfl
      have hvm : (ints v)[m]? = some [iv h.r.id] := by
        rw [List.getElem?_take, if_pos (by omega)] at hidm
        exact nthMap (fun x => [iv x]) hidm
      have hmn : m < n := by omega
      have hpc := fun H' (hw : RepW H' F w) => put1_ok hw h.r.id h.r r (by rw [hR.mr.get]; unfold recF; rw [findH_at hg.nd hm]; rfl)
      have hpc := hpc H hR.raw
      have hpm := hp m h hm
      simp only [Item.cs] at hpc
      have hlt' := Int.ofNat_lt.2 hlt
      generalize cmpR h.r r = cv at *
      by_cases hc : cv < 0
      · have := hpm.1 hc
        repeat' (first | refine spD (fun _ => ?_) (fun _ => ?_) | refine spF (fun _ => ?_) (fun _ => ?_) | (apply gT; (exact rfl)) | (apply off; (exact rfl); (exact rfl)) | (apply condT; (exact rfl)) | (apply condF; (exact rfl)) | ((first | (apply stp0; (exact rfl); (exact rfl)) | (apply stpN0; (exact rfl)) | apply gT | apply condT | ((first | apply bodyQ_d0 | apply bodyQ_d1 | apply bodyQ_d2 | apply bodyQ_d3 | apply bodyQ_d4); (exact .inr rfl); (rw [Try.results57]))); (first | (focus (simp only [go_sem, ↓reduceIte, simprocAttr, hlt', t7, t8, t0, t2, t4, w1, hh, w2, w3, hb, hvl, hvm, hmn, Nat.zero_add, hc, ne_eq, not_false_eq_true] <;> rfl)) | exact rfl); (first | (fail_if_success (show okD _ _ _ _ _ _ _ _ _)) | (first | exact okT | exact okN | exact okE rfl)); (first | (fail_if_success (show Bel _ _)) | (focus first | exact .val _ | (simp [oneOf, Bel_iff_tup, Bel_iff_agg, Bel_iff_rsl, Bel_iff_fn, Bel_iff_rptr, Bel_val]; done)))) | (apply calTo0; (exact rfl); (iterate 2 (simp only [go_sem, ↓reduceIte, simprocAttr, hlt', t7, t8, t0, t2, t4, w1, hh, w2, w3, hb, hvl, hvm, hmn, Nat.zero_add, hc, ne_eq, not_false_eq_true]; rfl)); (first | exact hpc); (first | exact okT | exact okN | exact okE rfl)) | refine thenQ_n ?_ | refine thenQ_r ?_ | refine thenQ_e ?_ | refine blockQ_n ?_ | refine blockQ_r ?_ | refine blockQ_e ?_ | (apply blockQ_o; (exact rfl)) | refine Awp.seq ?_ | refine Awp.skip ?_ | refine Awp.block ?_ | refine reg (fun s => false) ?_ | (apply drwE mixed (fun s => false); (kernel_rfl)) | refine fin ?_ | refine Awp.ret ?_ | refine Awp.exit ?_ | ((first | (apply off; (exact rfl)) | apply condF); (first | (focus (simp only [go_sem, ↓reduceIte, simprocAttr, hlt', t7, t8, t0, t2, t4, w1, hh, w2, w3, hb, hvl, hvm, hmn, Nat.zero_add, hc, ne_eq, not_false_eq_true] <;> rfl)) | exact rfl)))
        all_goals first | contradiction | (exfalso; omega) | skip
        refine ⟨(m + 1, hi), ⟨by simp only; omega, h2, h3, ?_, ?_, ?_, ?_, ?_, rfl⟩, by simp only; omega⟩
        · (first | (focus (simp only [go_sem, ↓reduceIte, simprocAttr, w3]; first | done | rfl)) | rfl)
        · (first | (focus (simp only [go_sem, ↓reduceIte, simprocAttr, t8]; first | done | rfl)) | rfl)
        · (first | (focus (simp only [go_sem, ↓reduceIte, simprocAttr, t0]; first | done | rfl)) | rfl)
        · (first | (focus (simp only [go_sem, ↓reduceIte, simprocAttr, t2]; first | done | rfl)) | rfl)
        · (first | (focus (simp only [go_sem, ↓reduceIte, simprocAttr, t4]; first | done | rfl)) | rfl)
      · have : ¬ m < a := fun k => hc (hpm.2 k)
        repeat' (first | refine spD (fun _ => ?_) (fun _ => ?_) | refine spF (fun _ => ?_) (fun _ => ?_) | (apply gT; (exact rfl)) | (apply off; (exact rfl); (exact rfl)) | (apply condT; (exact rfl)) | (apply condF; (exact rfl)) | ((first | (apply stp0; (exact rfl); (exact rfl)) | (apply stpN0; (exact rfl)) | apply gT | apply condT | ((first | apply bodyQ_d0 | apply bodyQ_d1 | apply bodyQ_d2 | apply bodyQ_d3 | apply bodyQ_d4); (exact .inr rfl); (rw [Try.results57]))); (first | (focus (simp only [go_sem, ↓reduceIte, simprocAttr, hlt', t7, t8, t0, t2, t4, w1, hh, w2, w3, hb, hvl, hvm, hmn, Nat.zero_add, hc, ne_eq, not_false_eq_true] <;> rfl)) | exact rfl); (first | (fail_if_success (show okD _ _ _ _ _ _ _ _ _)) | (first | exact okT | exact okN | exact okE rfl)); (first | (fail_if_success (show Bel _ _)) | (focus first | exact .val _ | (simp [oneOf, Bel_iff_tup, Bel_iff_agg, Bel_iff_rsl, Bel_iff_fn, Bel_iff_rptr, Bel_val]; done)))) | (apply calTo0; (exact rfl); (iterate 2 (simp only [go_sem, ↓reduceIte, simprocAttr, hlt', t7, t8, t0, t2, t4, w1, hh, w2, w3, hb, hvl, hvm, hmn, Nat.zero_add, hc, ne_eq, not_false_eq_true]; rfl)); (first | exact hpc); (first | exact okT | exact okN | exact okE rfl)) | refine thenQ_n ?_ | refine thenQ_r ?_ | refine thenQ_e ?_ | refine blockQ_n ?_ | refine blockQ_r ?_ | refine blockQ_e ?_ | (apply blockQ_o; (exact rfl)) | refine Awp.seq ?_ | refine Awp.skip ?_ | refine Awp.block ?_ | refine reg (fun s => false) ?_ | (apply drwE mixed (fun s => false); (kernel_rfl)) | refine fin ?_ | refine Awp.ret ?_ | refine Awp.exit ?_ | ((first | (apply off; (exact rfl)) | apply condF); (first | (focus (simp only [go_sem, ↓reduceIte, simprocAttr, hlt', t7, t8, t0, t2, t4, w1, hh, w2, w3, hb, hvl, hvm, hmn, Nat.zero_add, hc, ne_eq, not_false_eq_true] <;> rfl)) | exact rfl)))
        all_goals first | contradiction | (exfalso; omega) | skip
        refine ⟨(lo, m), ⟨h1, by simp only; omega, by simp only; omega, ?_, ?_, ?_, ?_, ?_, rfl⟩, by simp only; omega⟩
        · (first | (focus (simp only [go_sem, ↓reduceIte, simprocAttr, t7]; first | done | rfl)) | rfl)
        · (first | (focus (simp only [go_sem, ↓reduceIte, simprocAttr]; first | done | rfl)) | rfl)
        · (first | (focus (simp only [go_sem, ↓reduceIte, simprocAttr, t0]; first | done | rfl)) | rfl)
        · (first | (focus (simp only [go_sem, ↓reduceIte, simprocAttr, t2]; first | done | rfl)) | rfl)
        · (first | (focus (simp only [go_sem, ↓reduceIte, simprocAttr, t4]; first | done | rfl)) | rfl)
    · have e1 : lo = a := by omega
      have e2 : hi = a := by omega
      subst e1; subst e2
      repeat' (first | refine spD (fun _ => ?_) (fun _ => ?_) | refine spF (fun _ => ?_) (fun _ => ?_) | (apply gT; (exact rfl)) | (apply off; (exact rfl); (exact rfl)) | (apply condT; (exact rfl)) | (apply condF; (exact rfl)) | ((first | (apply stp0; (exact rfl); (exact rfl)) | (apply stpN0; (exact rfl)) | apply gT | apply condT | ((first | apply bodyQ_d0 | apply bodyQ_d1 | apply bodyQ_d2 | apply bodyQ_d3 | apply bodyQ_d4); (exact .inr rfl); (rw [Try.results57]))); (first | (focus (simp only [go_sem, ↓reduceIte, simprocAttr, Int.lt_irrefl, t7, t8] <;> rfl)) | exact rfl); (first | (fail_if_success (show okD _ _ _ _ _ _ _ _ _)) | (first | exact okT | exact okN | exact okE rfl)); (first | (fail_if_success (show Bel _ _)) | (focus first | exact .val _ | (simp [oneOf, Bel_iff_tup, Bel_iff_agg, Bel_iff_rsl, Bel_iff_fn, Bel_iff_rptr, Bel_val]; done)))) | refine thenQ_n ?_ | refine thenQ_r ?_ | refine thenQ_e ?_ | refine blockQ_n ?_ | refine blockQ_r ?_ | refine blockQ_e ?_ | (apply blockQ_o; (exact rfl)) | refine Awp.seq ?_ | refine Awp.skip ?_ | refine Awp.block ?_ | refine reg (fun s => false) ?_ | (apply drwE mixed (fun s => false); (kernel_rfl)) | refine fin ?_ | refine Awp.ret ?_ | refine Awp.exit ?_ | ((first | (apply off; (exact rfl)) | apply condF); (first | (focus (simp only [go_sem, ↓reduceIte, simprocAttr, Int.lt_irrefl, t7, t8] <;> rfl)) | exact rfl)))
      all_goals first | contradiction | (exfalso; omega) | rfl | skip

/-- a number put into a row -/
def insA {α : Type} (a : Nat) (x : α) (l : List α) : List α := l.take a ++ x :: l.drop a

set_option maxRecDepth 8000 in
theorem insert_emp (H : Hp) (vb : Nat) (y : AV) (hvb : H[vb]? = some (.cells [[y]] 2)) : CallsTo Try.prog 59 [.rsl [] true, .val (.int .i64 0), .msl vb 0 1] H (.msl H.length 0 1) (H ++ [.cells [[y]] 2]) := by
  refine ACalls.of_body Try.func59 rfl (by kernel_rfl) (by rw [Try.ntmps59]; simp) ?_; rw [Try.ntmps59]
  repeat' (first | refine spD (fun _ => ?_) (fun _ => ?_) | refine spF (fun _ => ?_) (fun _ => ?_) | (apply gT; (exact rfl)) | (apply off; (exact rfl); (exact rfl)) | (apply condT; (exact rfl)) | (apply condF; (exact rfl)) | ((first | (apply stp0; (exact rfl); (exact rfl)) | (apply stpN0; (exact rfl)) | apply gT | apply condT | ((first | apply bodyQ_d0 | apply bodyQ_d1 | apply bodyQ_d2 | apply bodyQ_d3 | apply bodyQ_d4); (exact .inr rfl); (rw [Try.results59]))); (first | (focus (simp only [go_sem, ↓reduceIte, simprocAttr, hvb] <;> rfl)) | exact rfl); (first | (fail_if_success (show okD _ _ _ _ _ _ _ _ _)) | (first | exact okT | exact okN | exact okE rfl)); (first | (fail_if_success (show Bel _ _)) | (focus first | exact .val _ | (simp [oneOf, Bel_iff_tup, Bel_iff_agg, Bel_iff_rsl, Bel_iff_fn, Bel_iff_rptr, Bel_val]; done)))) | refine thenQ_n ?_ | refine thenQ_r ?_ | refine thenQ_e ?_ | refine blockQ_n ?_ | refine blockQ_r ?_ | refine blockQ_e ?_ | (apply blockQ_o; (exact rfl)) | refine Awp.seq ?_ | refine Awp.skip ?_ | refine Awp.block ?_ | refine reg (fun s => false) ?_ | (apply drwE mixed (fun s => false); (kernel_rfl)) | refine fin ?_ | refine Awp.ret ?_ | refine Awp.exit ?_ | ((first | (apply off; (exact rfl)) | apply condF); (first | (focus (simp only [go_sem, ↓reduceIte, simprocAttr, hvb] <;> rfl)) | exact rfl)))
  all_goals first | (exfalso; omega) | skip
  refine bodyQ_mk (vs := [.msl H.length 0 1]) (.inr rfl) ?_ (Vs.refl _ _ _) ?_
  · (rw [Try.results59]; first | (simp only [go_sem, ↓reduceIte, simprocAttr]; done) | (simp only [go_sem, ↓reduceIte, simprocAttr]; rfl))
  · exact ⟨rfl, rfl⟩

theorem insert_ok {H : Hp} {ord : AV} {ids : List Int} (hO : OrdAt H ord ids) {vb : Nat} {y : Int} (hvb : H[vb]? = some (.cells [[iv y]] 2)) (hne : ∀ o n, ord = .msl o 0 n → o ≠ vb) (a : Nat) (ha : a ≤ ids.length) (hl : ids.length ≤ 1000) :
    CallsTo Try.prog 59 [ord, iv a, .msl vb 0 1] H (.msl H.length 0 (ids.length + 1)) (ownK H ord ++ [.cells (ints (insA a y ids)) 2]) := by
  cases hO with
  | nil =>
    have : a = 0 := by simpa using ha
    subst this
    exact insert_nil H vb _ hvb
  | emp =>
    have : a = 0 := by simpa using ha
    subst this
    exact insert_emp H vb _ hvb
  | row hb hn h0 =>
    rename_i o n v
    have hlen : (v.take n).length = n := by rw [List.length_take]; omega
    have hvl := ints_len v
    rw [hlen] at ha hl ⊢
    have hall : (ints v).all (fun e => e.length == 1) = true := by rw [List.all_eq_true]; intro e he; obtain ⟨x, _, rfl⟩ := List.mem_map.1 he; rfl
    have hcell : (ints v).all (fun e => e.all AV.isCell) = true := by rw [List.all_eq_true]; intro e he; obtain ⟨x, _, rfl⟩ := List.mem_map.1 he; rfl
    by_cases hlt : a < n
    · have h := insert_mid H o n a vb (ints v) (iv y) hb hvb (hne _ _ rfl) hlt (by rw [hvl]; exact hn) hall hcell rfl (by omega)
      have e : ((ints v).take n).take a ++ [[iv y]] ++ ((ints v).take n).drop a = ints (insA a y (v.take n)) := by simp [ints, insA, List.map_take, List.map_drop]
      rw [e] at h
      exact h
    · have : a = n := by omega
      subst this
      have h := insert_end H o a vb (ints v) y hb hvb (by rw [hvl]; exact hn) (by rw [hvl]; exact h0) hall (by omega)
      have e : (ints v).take a ++ [[iv y]] = ints (insA a y (v.take a)) := by
        have e1 : (v.take a).take a = v.take a := List.take_of_length_le (Nat.le_of_eq hlen)
        have e2 : (v.take a).drop a = [] := List.drop_of_length_le (Nat.le_of_eq hlen)
        unfold insA
        rw [e1, e2]
        simp [ints, List.map_take]
      rw [e] at h
      exact h

end Go.Proofs.Ytlhchnnfgppneaa.Ab
namespace Go.Proofs.Ytlhchnnfgppneaa.Ab
open Go Go.RowKit Go.Proofs
set_option linter.unusedSimpArgs false
set_option linter.unusedVariables false
attribute [local irreducible] Awp wpO thenQ blockQ bodyQ ACalls stepA

theorem sgn_cases (x y : Int) : (x < y ∧ sgn x y = -1) ∨ (x > y ∧ sgn x y = 1) ∨ (x = y ∧ sgn x y = 0) := by
  unfold sgn
  by_cases h : x < y
  · exact .inl ⟨h, if_pos h⟩
  · by_cases k : x > y
    · exact .inr (.inl ⟨k, by rw [if_neg h, if_pos k]⟩)
    · exact .inr (.inr ⟨by omega, by rw [if_neg h, if_neg k]⟩)
theorem cmpR_neg {a b : Item} : cmpR a b < 0 ↔ lessR b a := by
  unfold cmpR lessR orL
  rcases sgn_cases b.cls a.cls with ⟨h1, e1⟩ | ⟨h1, e1⟩ | ⟨h1, e1⟩ <;> rw [e1]
  · simp; omega
  · simp; omega
  · rcases sgn_cases b.made a.made with ⟨h2, e2⟩ | ⟨h2, e2⟩ | ⟨h2, e2⟩ <;> simp [orL, e2]
    · omega
    · omega
    · rcases sgn_cases a.id b.id with ⟨h3, e3⟩ | ⟨h3, e3⟩ | ⟨h3, e3⟩ <;> simp [orL, e3] <;> omega
theorem lessR_trans {a b c : Item} (h : lessR a b) (k : lessR b c) : lessR a c := by unfold lessR at *; omega
theorem lessR_total {a b : Item} (h : a.id ≠ b.id) : lessR a b ∨ lessR b a := by unfold lessR; omega
theorem lessR_asymm {a b : Item} (h : lessR a b) : ¬ lessR b a := by unfold lessR at *; omega

/-- where a record goes -/
def placeN : List Hd → Item → Nat
  | [], _ => 0
  | h :: l, r => if cmpR h.r r < 0 then placeN l r + 1 else 0
theorem placeN_le (r : Item) : ∀ L : List Hd, placeN L r ≤ L.length := by
  intro L
  induction L with
  | nil => exact Nat.le_refl _
  | cons h l ih => unfold placeN; split <;> simp <;> omega
theorem placeN_spec {r : Item} : ∀ {L : List Hd}, L.Pairwise (fun x y => lessR y.r x.r) → ∀ i h, L[i]? = some h → (cmpR h.r r < 0 ↔ i < placeN L r) := by
  intro L
  induction L with
  | nil => intro _ i h hi; simp at hi
  | cons x l ih =>
    intro hp i h hi
    have hp' := List.pairwise_cons.1 hp
    unfold placeN
    cases i with
    | zero =>
      simp at hi; subst hi
      split
      · rename_i k; simp [k]
      · rename_i k; simp; omega
    | succ i =>
      have hi' : l[i]? = some h := by simpa using hi
      split
      · rw [ih hp'.2 i h hi']; omega
      · rename_i k
        refine ⟨fun k2 => ?_, fun k2 => by omega⟩
        exfalso
        apply k
        rw [cmpR_neg] at *
        exact lessR_trans k2 (hp'.1 h (List.mem_of_getElem? hi'))

def Bf.ins (S : Bf) (r : Item) : Bf := { S with used := S.used + r.size, L := insA (placeN S.L r) ⟨r, false, -1⟩ S.L }
def Bf.drop (S : Bf) : Bf := match S.L.getLast? with
  | some h => { S with used := S.used - h.bytes, L := S.L.dropLast }
  | none => S
def Bf.lastId (S : Bf) : Int := match S.L.getLast? with
  | some h => h.r.id
  | none => 0
def nextJ (S : Bf) : Option Nat := if S.L.length ≤ 256 then lastL S.L S.L.length else none
def Bf.over (S : Bf) : Prop := S.used > S.cap ∨ S.L.length > 256
instance (S : Bf) : Decidable S.over := by unfold Bf.over; infer_instance
def shr : Nat → Bf → List Int → Bf × List Int
  | 0, S, ds => (S, ds)
  | k + 1, S, ds => if S.over then (match nextJ S with
    | some j => shr k (S.press j) ds
    | none => shr k S.drop (ds ++ [S.lastId])) else (S, ds)
def Bf.mu (S : Bf) : Nat := S.L.length + S.L.countP loose
def putE (S : Bf) (r : Item) : Int := if ¬ r.ok then 2 else if r.id ∈ idsL S.L then 12 else if r.pk > S.cap then 14 else 0
def putR (S : Bf) (r : Item) : Bf × List Int := if putE S r = 0 then shr (S.ins r).mu (S.ins r) [] else (S, [])

theorem sum_set {f : Hd → Int} {h h' : Hd} : ∀ {L : List Hd} {j : Nat}, L[j]? = some h → ((L.set j h').map f).sum = (L.map f).sum - f h + f h' := by
  intro L
  induction L with
  | nil => intro j hj; simp at hj
  | cons x l ih =>
    intro j hj
    cases j with
    | zero => simp at hj; subst hj; simp; omega
    | succ j =>
      have := ih (j := j) (by simpa using hj)
      simp only [List.set_cons_succ, List.map_cons, List.sum_cons, this]; omega
theorem insA_map {α β : Type} (f : α → β) (a : Nat) (x : α) (l : List α) : (insA a x l).map f = insA a (f x) (l.map f) := by simp [insA, List.map_take, List.map_drop]
theorem insA_len {α : Type} {a : Nat} {x : α} {l : List α} : (insA a x l).length = l.length + 1 := by simp [insA]; omega
theorem insA_perm {α : Type} (a : Nat) (x : α) (l : List α) : (insA a x l).Perm (x :: l) := by
  unfold insA
  refine List.perm_middle.trans ?_
  rw [List.take_append_drop]
theorem insA_mem {α : Type} {a : Nat} {x y : α} {l : List α} : y ∈ insA a x l ↔ y = x ∨ y ∈ l := by rw [(insA_perm a x l).mem_iff]; simp
theorem sum_ins {f : Hd → Int} (a : Nat) (x : Hd) (L : List Hd) : ((insA a x L).map f).sum = f x + (L.map f).sum := by
  have h : ((L.take a).map f).sum + ((L.drop a).map f).sum = (L.map f).sum := by rw [← List.sum_append, ← List.map_append, List.take_append_drop]
  simp only [insA, List.map_append, List.map_cons, List.sum_append, List.sum_cons]
  omega

theorem Good.insG {S : Bf} (h : Good S) (hl : S.L.length ≤ 256) {r : Item} (hr : r.ok) (hn : r.id ∉ idsL S.L) : Good (S.ins r) := by
  have hpl := placeN_le r S.L
  refine ⟨?_, ?_, ?_, ?_, h.cap, ?_⟩
  · show (idsL (insA _ _ _)).Nodup
    unfold idsL
    rw [insA_map, (insA_perm _ _ _).nodup_iff, List.nodup_cons]
    exact ⟨hn, h.nd⟩
  · intro x hx
    rcases insA_mem.1 hx with rfl | hx
    · exact hr
    · exact h.ok x hx
  · show S.used + r.size = _
    rw [show (S.ins r).L = insA (placeN S.L r) ⟨r, false, -1⟩ S.L from rfl, sum_ins, h.sum]
    show _ = r.size + _
    omega
  · show (insA _ _ _).length ≤ 257
    rw [insA_len]; omega
  · show (insA _ _ _).Pairwise _
    have hs := placeN_spec h.srt (r := r)
    unfold insA
    refine List.pairwise_append.2 ⟨h.srt.sublist (List.take_sublist _ _), List.pairwise_cons.2 ⟨?_, h.srt.sublist (List.drop_sublist _ _)⟩, ?_⟩
    · intro x hx
      obtain ⟨i, hi⟩ := List.getElem?_of_mem hx
      rw [List.getElem?_drop] at hi
      have h1 := (hs _ x hi)
      have h2 : ¬ cmpR x.r r < 0 := fun k => by have := h1.1 k; omega
      rw [cmpR_neg] at h2
      have hne : r.id ≠ x.r.id := fun e => hn (by rw [e]; exact List.mem_map.2 ⟨x, List.mem_of_getElem? hi, rfl⟩)
      rcases lessR_total hne with k | k
      · exact absurd k h2
      · exact k
    · intro x hx y hy
      obtain ⟨i, hi⟩ := List.getElem?_of_mem hx
      rw [List.getElem?_take] at hi
      split at hi
      · rename_i hlt
        have h1 := (hs _ x hi).2 hlt
        rw [cmpR_neg] at h1
        rcases List.mem_cons.1 hy with rfl | hy
        · exact h1
        · obtain ⟨k, hk⟩ := List.getElem?_of_mem hy
          rw [List.getElem?_drop] at hk
          have g1 := List.getElem?_eq_some_iff.1 hi
          have g2 := List.getElem?_eq_some_iff.1 hk
          have := List.pairwise_iff_getElem.1 h.srt i (placeN S.L r + k) g1.1 g2.1 (by omega)
          rwa [g1.2, g2.2] at this
      · cases hi
def recs (L : List Hd) : List Item := L.map fun h => h.r
theorem recs_set {L : List Hd} {j : Nat} {h h' : Hd} (hj : L[j]? = some h) (he : h'.r = h.r) : recs (L.set j h') = recs L := by
  unfold recs
  rw [List.map_set]
  refine List.ext_getElem? fun i => ?_
  rw [List.getElem?_set]
  split
  · rename_i e; subst e
    rw [List.length_map, if_pos (List.getElem?_eq_some_iff.1 hj).1, List.getElem?_map, hj, Option.map_some, he]
  · rfl
theorem srt_recs {L : List Hd} : L.Pairwise (fun x y => lessR y.r x.r) ↔ (recs L).Pairwise (fun x y => lessR y x) := by unfold recs; rw [List.pairwise_map]
theorem press_eq {S : Bf} {j : Nat} {x : Hd} (hj : S.L[j]? = some x) : S.press j = { S with used := S.used - (x.r.size - x.r.pk), L := S.L.set j { x with sm := true } } := by unfold Bf.press; rw [hj]
theorem loose_iff {x : Hd} : loose x = true ↔ x.sm = false ∧ x.r.pk < x.r.size := by unfold loose; cases x.sm <;> simp
theorem Good.pressG {S : Bf} (h : Good S) {j : Nat} {x : Hd} (hj : S.L[j]? = some x) (hl : loose x = true) : Good (S.press j) := by
  rw [press_eq hj]
  refine ⟨?_, ?_, ?_, ?_, h.cap, ?_⟩
  · show (idsL (S.L.set j { x with sm := true })).Nodup
    rw [idsL_set (h' := { x with sm := true }) hj rfl]; exact h.nd
  · intro y hy
    rcases List.mem_or_eq_of_mem_set hy with m | rfl
    · exact h.ok y m
    · exact h.ok x (List.mem_of_getElem? hj)
  · show S.used - (x.r.size - x.r.pk) = ((S.L.set j { x with sm := true }).map Hd.bytes).sum
    rw [sum_set hj, h.sum]
    have h1 := (loose_iff.1 hl).1
    have e1 : x.bytes = x.r.size := by unfold Hd.bytes; rw [h1]; rfl
    have e2 : Hd.bytes { x with sm := true } = x.r.pk := rfl
    rw [e1, e2]; omega
  · show (S.L.set j _).length ≤ 257
    rw [List.length_set]; exact h.len
  · show (S.L.set j { x with sm := true }).Pairwise _
    rw [srt_recs, recs_set (h' := { x with sm := true }) hj rfl, ← srt_recs]; exact h.srt
theorem last_split {L : List Hd} {x : Hd} (h : L.getLast? = some x) : L = L.dropLast ++ [x] := by
  obtain ⟨ys, e⟩ := List.getLast?_eq_some_iff.1 h
  subst e; simp
theorem drop_eq {S : Bf} {x : Hd} (h : S.L.getLast? = some x) : S.drop = { S with used := S.used - x.bytes, L := S.L.dropLast } ∧ S.lastId = x.r.id := by unfold Bf.drop Bf.lastId; rw [h]; exact ⟨rfl, rfl⟩
theorem Good.dropG {S : Bf} (h : Good S) {x : Hd} (hx : S.L.getLast? = some x) : Good S.drop := by
  rw [(drop_eq hx).1]
  have hs := last_split hx
  have hsub : S.L.dropLast.Sublist S.L := List.dropLast_sublist _
  refine ⟨?_, fun y hy => h.ok y (hsub.subset hy), ?_, ?_, h.cap, h.srt.sublist hsub⟩
  · exact h.nd.sublist (hsub.map _)
  · show S.used - x.bytes = (S.L.dropLast.map Hd.bytes).sum
    have : (S.L.map Hd.bytes).sum = (S.L.dropLast.map Hd.bytes).sum + x.bytes := by
      conv => lhs; rw [hs]
      simp
    rw [h.sum]; omega
  · show S.L.dropLast.length ≤ 257
    have := h.len
    rw [List.length_dropLast]; omega
theorem mu_press {S : Bf} {j : Nat} {x : Hd} (hj : S.L[j]? = some x) (hl : loose x = true) : (S.press j).mu + 1 = S.mu := by
  rw [press_eq hj]
  have hlt := (List.getElem?_eq_some_iff.1 hj)
  show (S.L.set j { x with sm := true }).length + (S.L.set j { x with sm := true }).countP loose + 1 = S.L.length + S.L.countP loose
  rw [List.length_set, List.countP_set hlt.1]
  have h1 : loose (S.L[j]'hlt.1) = true := by rw [hlt.2]; exact hl
  have h2 : loose { x with sm := true } = false := rfl
  have h3 : 0 < S.L.countP loose := List.countP_pos_iff.2 ⟨x, List.mem_of_getElem? hj, hl⟩
  rw [h1, h2]
  simp
  omega
theorem mu_drop {S : Bf} {x : Hd} (hx : S.L.getLast? = some x) : S.drop.mu + 1 ≤ S.mu := by
  rw [(drop_eq hx).1]
  have hs := last_split hx
  have h1 : (S.L.dropLast).countP loose ≤ S.L.countP loose := (List.dropLast_sublist _).countP_le
  have h2 : S.L.length = S.L.dropLast.length + 1 := by
    have := congrArg List.length hs
    rw [List.length_append, List.length_singleton] at this
    exact this
  show S.L.dropLast.length + (S.L.dropLast).countP loose + 1 ≤ S.L.length + S.L.countP loose
  omega
theorem over_ne {S : Bf} (h : Good S) (ho : S.over) : ∃ x, S.L.getLast? = some x := by
  cases e : S.L.getLast? with
  | some x => exact ⟨x, rfl⟩
  | none =>
    exfalso
    have hn : S.L = [] := List.getLast?_eq_none_iff.1 e
    have hs := h.sum
    have hc := h.cap
    unfold Bf.over at ho
    rw [hn] at hs ho
    simp at hs ho
    omega
theorem nextJ_some {S : Bf} {j : Nat} (h : nextJ S = some j) : S.L.length ≤ 256 ∧ ∃ x, S.L[j]? = some x ∧ loose x = true := by
  unfold nextJ at h
  split at h
  · rename_i hl; exact ⟨hl, (lastL_spec h).2.1⟩
  · cases h

/-- what is so while records are pressed and dropped -/
structure Shr (S0 S : Bf) (ds : List Int) : Prop where
  good : Good S
  cap : S.cap = S0.cap
  time : S.time = S0.time
  recs : recs S.L = (Ab.recs S0.L).take S.L.length
  len : S.L.length + ds.length = S0.L.length
  drp : ∀ d ∈ ds, ∃ x ∈ (Ab.recs S0.L).drop S.L.length, x.id = d
  keep : ∀ (i : Nat) (x y : Hd), S.L[i]? = some x → S0.L[i]? = some y → (y.sm = true → x.sm = true) ∧ x.sent = y.sent
  no : S0.L.length ≤ 256 → ds ≠ [] → ∀ x ∈ S.L, loose x = false
theorem Shr.start {S : Bf} (h : Good S) : Shr S S [] := ⟨h, rfl, rfl, by rw [List.take_of_length_le (by simp [Ab.recs])], by simp, by simp, fun i x y h1 h2 => by rw [h1] at h2; cases h2; exact ⟨id, rfl⟩, fun _ h => absurd rfl h⟩
theorem Shr.pressS {S0 S : Bf} {ds : List Int} (h : Shr S0 S ds) {j : Nat} (hj : nextJ S = some j) : Shr S0 (S.press j) ds := by
  obtain ⟨_, x, hx, hl⟩ := nextJ_some hj
  have hg := h.good.pressG hx hl
  have hjs := (loose_iff.1 hl).1
  rw [press_eq hx] at hg ⊢
  have hlen : (S.L.set j { x with sm := true }).length = S.L.length := List.length_set ..
  refine ⟨hg, h.cap, h.time, ?_, ?_, ?_, ?_, ?_⟩
  · show Ab.recs (S.L.set j { x with sm := true }) = _
    rw [hlen, recs_set (h' := { x with sm := true }) hx rfl]; exact h.recs
  · show (S.L.set j _).length + _ = _
    rw [hlen]; exact h.len
  · show ∀ d ∈ ds, ∃ y ∈ (Ab.recs S0.L).drop (S.L.set j _).length, _
    rw [hlen]; exact h.drp
  · intro i a b ha hb
    have ha' : (S.L.set j { x with sm := true })[i]? = some a := ha
    rw [List.getElem?_set] at ha'
    split at ha'
    · rename_i e; subst e
      rw [if_pos (List.getElem?_eq_some_iff.1 hx).1] at ha'
      cases ha'
      exact ⟨fun _ => rfl, (h.keep _ _ _ hx hb).2⟩
    · exact h.keep i a b ha' hb
  · intro h0 hd y hy
    have := h.no h0 hd x (List.mem_of_getElem? hx)
    rw [hl] at this; cases this
theorem Shr.dropS {S0 S : Bf} {ds : List Int} (h : Shr S0 S ds) (ho : S.over) (hj : nextJ S = none) : Shr S0 S.drop (ds ++ [S.lastId]) := by
  obtain ⟨x, hx⟩ := over_ne h.good ho
  have hg := h.good.dropG hx
  obtain ⟨e1, e2⟩ := drop_eq hx
  have hs := last_split hx
  have hlen : S.L.length = S.L.dropLast.length + 1 := by
    have := congrArg List.length hs
    rw [List.length_append, List.length_singleton] at this
    exact this
  rw [e2]
  rw [e1] at hg ⊢
  have hl2 := h.len
  have hr0 : (Ab.recs S0.L).length = S0.L.length := by simp [Ab.recs]
  have hat : (Ab.recs S0.L)[S.L.dropLast.length]? = some x.r := by
    have h1 : (Ab.recs S.L)[S.L.dropLast.length]? = some x.r := by
      unfold Ab.recs
      rw [List.getElem?_map]
      conv => lhs; rw [hs]
      simp
    rw [h.recs, List.getElem?_take, if_pos (by omega)] at h1
    exact h1
  refine ⟨hg, h.cap, h.time, ?_, ?_, ?_, ?_, ?_⟩
  · show Ab.recs S.L.dropLast = (Ab.recs S0.L).take S.L.dropLast.length
    have h1 : Ab.recs S.L = Ab.recs S.L.dropLast ++ [x.r] := by
      have := congrArg Ab.recs hs
      unfold Ab.recs at this ⊢
      rw [List.map_append] at this
      exact this
    have h2 := h.recs
    rw [h1, hlen, List.take_add_one, hat] at h2
    exact (List.append_inj' h2 (by simp)).1
  · show S.L.dropLast.length + (ds ++ [x.r.id]).length = _
    simp only [List.length_append, List.length_singleton]; omega
  · intro d hd
    show ∃ y ∈ (Ab.recs S0.L).drop S.L.dropLast.length, y.id = d
    have hdr : (Ab.recs S0.L).drop S.L.dropLast.length = x.r :: (Ab.recs S0.L).drop S.L.length := by
      have hlt : S.L.dropLast.length < (Ab.recs S0.L).length := (List.getElem?_eq_some_iff.1 hat).1
      rw [List.drop_eq_getElem_cons hlt, (List.getElem?_eq_some_iff.1 hat).2, hlen]
    rw [hdr]
    rcases List.mem_append.1 hd with m | m
    · obtain ⟨y, hy, e⟩ := h.drp d m; exact ⟨y, by simp [hy], e⟩
    · simp at m; exact ⟨x.r, by simp, m.symm⟩
  · intro i a b ha hb
    have ha' : S.L.dropLast[i]? = some a := ha
    have hi := (List.getElem?_eq_some_iff.1 ha').1
    have : S.L[i]? = some a := by
      rw [hs, List.getElem?_append_left hi]; exact ha'
    exact h.keep i a b this hb
  · intro h0 _ y hy
    have hy' : y ∈ S.L.dropLast := hy
    obtain ⟨i, hi⟩ := List.getElem?_of_mem hy'
    have hil := (List.getElem?_eq_some_iff.1 hi).1
    have hyL : S.L[i]? = some y := by rw [hs, List.getElem?_append_left hil]; exact hi
    unfold nextJ at hj
    rw [if_pos (by omega)] at hj
    exact lastL_no hj i y (by omega) hyL
theorem shr_spec : ∀ (k : Nat) {S0 S : Bf} {ds : List Int}, Shr S0 S ds → S.mu ≤ k → Shr S0 (shr k S ds).1 (shr k S ds).2 ∧ ¬ (shr k S ds).1.over
  | 0, S0, S, ds, h, hm => by
    refine ⟨h, fun ho => ?_⟩
    obtain ⟨x, hx⟩ := over_ne h.good ho
    have := mu_drop hx
    omega
  | k + 1, S0, S, ds, h, hm => by
    unfold shr
    by_cases ho : S.over
    · rw [if_pos ho]
      cases hj : nextJ S with
      | some j =>
        obtain ⟨_, x, hx, hl⟩ := nextJ_some hj
        have := mu_press hx hl
        exact shr_spec k (h.pressS hj) (by omega)
      | none =>
        obtain ⟨x, hx⟩ := over_ne h.good ho
        have := mu_drop hx
        exact shr_spec k (h.dropS ho hj) (by omega)
    · rw [if_neg ho]; exact ⟨h, ho⟩

end Go.Proofs.Ytlhchnnfgppneaa.Ab
namespace Go.Proofs.Ytlhchnnfgppneaa.Ab
open Go Go.RowKit Go.Proofs
set_option linter.unusedSimpArgs false
set_option linter.unusedVariables false
attribute [local irreducible] Awp wpO thenQ blockQ bodyQ ACalls stepA

theorem findH_ins {x : Hd} (y : Int) : ∀ (a : Nat) (L : List Hd), x.r.id ∉ idsL L → findH (insA a x L) y = if y = x.r.id then some x else findH L y := by
  intro a
  induction a with
  | zero => intro L _; rfl
  | succ a ih =>
    intro L hn
    cases L with
    | nil => rfl
    | cons h l =>
      have hn' : x.r.id ≠ h.r.id ∧ x.r.id ∉ idsL l := by simpa [idsL] using hn
      show (if y = h.r.id then some h else findH (insA a x l) y) = if y = x.r.id then some x else (if y = h.r.id then some h else findH l y)
      rw [ih l hn'.2]
      by_cases k : y = h.r.id
      · rw [if_pos k, if_pos k, if_neg (by rw [k]; exact Ne.symm hn'.1)]
      · rw [if_neg k, if_neg k]
theorem findH_last {x : Hd} (y : Int) : ∀ (L : List Hd), (idsL (L ++ [x])).Nodup → findH L y = if y = x.r.id then none else findH (L ++ [x]) y := by
  intro L
  induction L with
  | nil =>
    intro _
    show none = if y = x.r.id then none else (if y = x.r.id then some x else none)
    split <;> rfl
  | cons h l ih =>
    intro hn
    have hn' := List.nodup_cons.1 hn
    have hne : x.r.id ≠ h.r.id := fun e => hn'.1 (by show h.r.id ∈ idsL (l ++ [x]); rw [← e]; simp [idsL])
    show (if y = h.r.id then some h else findH l y) = if y = x.r.id then none else (if y = h.r.id then some h else findH (l ++ [x]) y)
    rw [ih hn'.2]
    by_cases k : y = h.r.id
    · rw [if_pos k, if_pos k, if_neg (by rw [k]; exact Ne.symm hne)]
    · rw [if_neg k, if_neg k]

/-- nothing else has turned, the old order apart -/
structure FrO (F : Ft) (w : Rw) (H H' : Hp) : Prop where
  len : H.length ≤ H'.length
  old : ∀ j, j < H.length → j ≠ F.b → j ≠ F.r → j ≠ F.s → j ≠ F.t → (∀ m, w.ord ≠ .msl j 0 m) → H'[j]? = H[j]?
theorem Fr.o {F : Ft} {w : Rw} {H H' : Hp} (h : Fr F H H') : FrO F w H H' := ⟨h.len, fun j hj a b c d _ => h.old j hj a b c d⟩
theorem FrO.trans {F : Ft} {w : Rw} {H H' H'' : Hp} (h : FrO F w H H') (k : Fr F H' H'') : FrO F w H H'' :=
  ⟨Nat.le_trans h.len k.len, fun j hj a b c d e => (k.old j (Nat.lt_of_lt_of_le hj h.len) a b c d).trans (h.old j hj a b c d e)⟩
theorem FrO.hi {F : Ft} {w : Rw} {H D : Hp} (h : FrO F w H D) {s : Nat} (hs : H.length ≤ s) (c : AObj) : FrO F w H (D.set s c) :=
  ⟨by simpa using h.len, fun j hj a b d e f => by rw [List.getElem?_set_ne (by omega)]; exact h.old j hj a b d e f⟩
theorem FrO.app {F : Ft} {w : Rw} {H D : Hp} (h : FrO F w H D) (X : Hp) : FrO F w H (D ++ X) :=
  ⟨by have := h.len; simp; omega, fun j hj a b d e f => by rw [List.getElem?_append_left (by have := h.len; omega)]; exact h.old j hj a b d e f⟩
theorem OrdAt.zero {H : Hp} {a : AV} {ids : List Int} (h : OrdAt H a ids) : ∀ b o n, a = .msl b o n → o = 0 := by
  intro b o n e
  cases h with
  | nil => cases e
  | emp => cases e
  | row _ _ _ => cases e; rfl
/-- forgetting the order's row -/
theorem ownK_get {H : Hp} {a : AV} {j : Nat} (hn : ∀ o n, a ≠ .msl j o n) : (ownK H a)[j]? = H[j]? := by
  unfold ownK
  split
  · rename_i b o n
    rw [List.getElem?_set_ne]
    rintro rfl; exact hn _ _ rfl
  · rfl
theorem FrO.own {F : Ft} {w : Rw} {H D : Hp} {ids : List Int} (h : FrO F w H D) (hO : OrdAt H w.ord ids) : FrO F w H (ownK D w.ord) :=
  ⟨by rw [ownK_len]; exact h.len, fun j hj a b c d e => by
    rw [ownK_get fun o n k => e n (by rw [k, hO.zero _ _ _ k])]; exact h.old j hj a b c d e⟩
/-- the order's row is not one of the other blocks -/
theorem RepW.ordNe {H : Hp} {F : Ft} {w : Rw} {ids : List Int} (h : RepW H F w) (hO : OrdAt H w.ord ids) (j : Nat) (hj : j = F.b ∨ j = F.r ∨ j = F.s ∨ j = F.t) : ∀ o n, w.ord ≠ .msl j o n := by
  intro o n e
  have := hO.zero _ _ _ e
  subst this
  obtain ⟨v, hv, _⟩ := hO.blk e
  rcases hj with rfl | rfl | rfl | rfl
  · rw [h.hb] at hv; simp at hv
  · rw [h.hr] at hv; simp at hv
  · rw [h.hs] at hv; simp at hv
  · rw [h.ht] at hv; simp at hv
theorem RepW.own {H : Hp} {F : Ft} {w : Rw} {ids : List Int} (h : RepW H F w) (hO : OrdAt H w.ord ids) : RepW (ownK H w.ord) F w :=
  ⟨by rw [ownK_get (h.ordNe hO _ (.inl rfl))]; exact h.hb, by rw [ownK_get (h.ordNe hO _ (.inr (.inl rfl)))]; exact h.hr, by rw [ownK_get (h.ordNe hO _ (.inr (.inr (.inl rfl))))]; exact h.hs,
   by rw [ownK_get (h.ordNe hO _ (.inr (.inr (.inr rfl))))]; exact h.ht, h.rs, h.rt, h.st⟩

/-- what Put comes to -/
def PutPost (H : Hp) (F : Ft) (w : Rw) (S : Bf) (r : Item) (v1 : AV) (H1 : Hp) : Prop :=
  ∃ w', v1 = .tup [.rsl (ints (putR S r).2) false, iv (putE S r)] ∧ Rep H1 F w' (putR S r).1 ∧ FrO F w H H1 ∧ (w'.ord = w.ord ∨ ∀ j m, w'.ord = .msl j 0 m → H.length ≤ j)

theorem putNo {H : Hp} {F : Ft} {w : Rw} {S : Bf} {r : Item} (hR : Rep H F w S) {e : Int} (he : putE S r = e) (hne : e ≠ 0) {H1 : Hp} (hG : Grow H H1) {T : Env} {fn : Func} (hr : resL Try.prog T H1 fn.results.toList = some [nilS, iv e]) {x : Exit} (hx : x = .normal ∨ x = .ret) :
    bodyQ Try.prog fn H (PutPost H F w S r) x T H1 := by
  have hS : putR S r = (S, []) := by unfold putR; rw [if_neg (by rw [he]; exact hne)]
  refine bodyQ_mk (vs := [nilS, iv e]) (a := .tup [.rsl [] false, iv e]) (H' := H1) hx hr Vs.nil2 ⟨w, ?_, ?_, hG.fr.o, .inl rfl⟩
  · rw [hS, he]; rfl
  · rw [hS]; exact hR.grow hG

theorem putE_ok (S : Bf) (r : Item) : (¬ r.ok ∧ r.code = 2 ∧ putE S r = 2) ∨ (r.ok ∧ r.code = 0 ∧ ((r.id ∈ idsL S.L ∧ putE S r = 12) ∨ (r.id ∉ idsL S.L ∧ ((r.pk > S.cap ∧ putE S r = 14) ∨ (¬ r.pk > S.cap ∧ putE S r = 0))))) := by
  unfold putE Item.code
  by_cases h : r.ok
  · right
    refine ⟨h, if_pos h, ?_⟩
    rw [if_neg (fun n => n h)]
    by_cases k : r.id ∈ idsL S.L
    · exact .inl ⟨k, if_pos k⟩
    · right
      refine ⟨k, ?_⟩
      rw [if_neg k]
      by_cases m : r.pk > S.cap
      · exact .inl ⟨m, if_pos m⟩
      · exact .inr ⟨m, if_neg m⟩
  · left
    exact ⟨h, if_neg h, if_pos h⟩

end Go.Proofs.Ytlhchnnfgppneaa.Ab
namespace Go.Proofs.Ytlhchnnfgppneaa.Ab
open Go Go.RowKit Go.Proofs
set_option linter.unusedSimpArgs false
set_option linter.unusedVariables false
attribute [local irreducible] Awp wpO thenQ blockQ bodyQ ACalls stepA

def tl : Code → Code
  | .seq _ y => y
  | c => c

set_option maxRecDepth 8000 in
set_option maxHeartbeats 8000000 in
theorem put12 {H K : Hp} {F : Ft} {w : Rw} {S : Bf} {T : Env} {r : Item} {Q : Exit → Env → Hp → Prop} (hG : Grow H K) (hR : Rep K F w S) (hg : Good S) (hl : S.L.length ≤ 256) (hr : r.ok) (hn : r.id ∉ idsL S.L)
    (t2 : T 2 = .rptr [.mptr F.b 0 0] 0) (t3 : T 3 = .rptr [iv r.id, iv r.cls, iv r.made, iv r.size, iv r.pk] 0) (t9 : T 9 = iv (placeN S.L r))
    (h : ∀ T K2 w2, T 2 = .rptr [.mptr F.b 0 0] 0 → Rep K2 F w2 (S.ins r) → FrO F w K K2 → (∃ n, w2.ord = .msl (K.length + 1) 0 n) → Awp Try.prog 131 none (tl (tl (tl (tl (tl (tl (tl (tl (tl (Try.f24.body.getD .skip)))))))))) T K2 Q) : Awp Try.prog 131 none (tl (tl (tl (tl (tl (tl (Try.f24.body.getD .skip))))))) T K Q := by
  unfold Try.f24 at h ⊢
  simp only [tl, Option.getD_some] at h ⊢
  have hO := hR.ord
  have hil : (idsL S.L).length = S.L.length := by simp [idsL]
  have hpN := placeN_le r S.L
  have hb := hR.raw.hb
  simp only [Rw.cs] at hb
  have hbb := held hb
  have hG1 : Grow K (K ++ [AObj.cells [[iv r.id]] 2]) := (Grow.refl _).app _
  have hO1 := hO.grow hG1
  have hR1 := hR.raw.grow hG1
  have hin := insert_ok hO1 (vb := K.length) (y := r.id) (get_new _ _) (fun o n e => by
    obtain ⟨v, hv, _⟩ := hO.blk e
    have := (List.getElem?_eq_some_iff.1 hv).1
    omega) (placeN S.L r) (by omega) (by omega)
  have hR2 := (hR1.own hO1).app [.cells (ints (insA (placeN S.L r) r.id (idsL S.L))) 2]
  have hb2 := hR2.hb
  simp only [Rw.cs] at hb2
  have hl2 : (K ++ [AObj.cells [[iv r.id]] 2]).length = K.length + 1 := by simp
  rw [hl2] at hin
  refine Awp.seq ?_
  repeat' ((fail_if_success (apply stopR (id := 13))); (fail_if_success (apply stopS (id := 13))); first | refine spD (fun _ => ?_) (fun _ => ?_) | refine spF (fun _ => ?_) (fun _ => ?_) | (apply gT; (exact rfl)) | (apply off; (exact rfl); (exact rfl)) | (apply condT; (exact rfl)) | (apply condF; (exact rfl)) | ((first | (apply stp0; (exact rfl); (exact rfl)) | (apply stpN0; (exact rfl)) | apply gT | apply condT | ((first | apply bodyQ_d0 | apply bodyQ_d1 | apply bodyQ_d2 | apply bodyQ_d3 | apply bodyQ_d4); (exact .inr rfl); (rw [Try.results24]))); (first | (focus (simp only [go_sem, ↓reduceIte, simprocAttr, t2, t3, t9, hb, hbb, hb2] <;> rfl)) | exact rfl); (first | (fail_if_success (show okD _ _ _ _ _ _ _ _ _)) | (first | exact trivial | exact ⟨fun _ => rfl, fun _ _ => rfl, fun h => Bool.noConfusion (show false = true from h)⟩ | (refine ⟨fun _ => rfl, fun _ _ => rfl, fun _ H2 hk => ?_⟩; have e := (hk (F.b) (beq_self_eq_true _)).trans (hb); unfold PerfTo; simp only [callOf]; (focus first | (simp only [go_sem, ↓reduceIte, simprocAttr, t2, t3, t9, hb, hbb, hb2, e]; done) | (simp only [go_sem, ↓reduceIte, simprocAttr, t2, t3, t9, hb, hbb, hb2, e]; rfl))) | (refine ⟨fun h => Bool.noConfusion (show true = false from h), fun b hQ => ?_, fun h => Bool.noConfusion (show false = true from h)⟩; have hQ' := eq_of_beq hQ; subst hQ'; (first | (focus (simp only [hbb, hb]; done)) | (exact hb2.trans hb.symm) | (exact hb2.trans (hbb.2.1 _).symm))))); (first | (fail_if_success (show Bel _ _)) | (focus first | exact .val _ | (simp [oneOf, Bel_iff_tup, Bel_iff_agg, Bel_iff_rsl, Bel_iff_fn, Bel_iff_rptr, Bel_val]; done)))) | (apply calTo0; (exact rfl); (iterate 2 (simp only [go_sem, ↓reduceIte, simprocAttr, t2, t3, t9, hb, hbb, hb2]; rfl)); (first | exact hin); (first | exact trivial | exact ⟨fun _ => rfl, fun _ _ => rfl, fun h => Bool.noConfusion (show false = true from h)⟩ | (refine ⟨fun _ => rfl, fun _ _ => rfl, fun _ H2 hk => ?_⟩; have e := (hk (F.b) (beq_self_eq_true _)).trans (hb); unfold PerfTo; simp only [callOf]; (focus first | (simp only [go_sem, ↓reduceIte, simprocAttr, t2, t3, t9, hb, hbb, hb2, e]; done) | (simp only [go_sem, ↓reduceIte, simprocAttr, t2, t3, t9, hb, hbb, hb2, e]; rfl))) | (refine ⟨fun h => Bool.noConfusion (show true = false from h), fun b hQ => ?_, fun h => Bool.noConfusion (show false = true from h)⟩; have hQ' := eq_of_beq hQ; subst hQ'; (first | (focus (simp only [hbb, hb]; done)) | (exact hb2.trans hb.symm) | (exact hb2.trans (hbb.2.1 _).symm))))) | refine thenQ_n ?_ | refine thenQ_r ?_ | refine thenQ_e ?_ | refine blockQ_n ?_ | refine blockQ_r ?_ | refine blockQ_e ?_ | (apply blockQ_o; (exact rfl)) | refine Awp.seq ?_ | refine Awp.skip ?_ | refine Awp.block ?_ | refine reg (fun s => s == 7 || s == 54) ?_ | (apply drwL mixed (fun s => s == 7 || s == 54) ⟨fun i => i == 8 || i == 9, fun i => i == 0 || i == 1 || i == 4 || i == 7, fun b => b == F.b⟩; (exact rfl); (kernel_rfl); (kernel_rfl); simp only [List.pop_toArray, List.dropLast_cons_cons, List.dropLast_singleton, List.map_cons, List.map_nil]) | refine fin ?_ | refine Awp.ret ?_ | refine Awp.exit ?_ | ((first | (apply off; (exact rfl)) | apply condF); (first | (focus (simp only [go_sem, ↓reduceIte, simprocAttr, t2, t3, t9, hb, hbb, hb2] <;> rfl)) | exact rfl)))
  all_goals first | contradiction | (exfalso; omega) | skip
  have hl3 : (idsL S.L).length + 1 = (insA (placeN S.L r) r.id (idsL S.L)).length := insA_len.symm
  obtain ⟨R3, F3⟩ := hR2.setB w.used w.time (.msl (K.length + 1) 0 ((idsL S.L).length + 1))
  have b3 := R3.hb
  have u3 := mT40.upd R3.hr r.id (.agg [iv r.id, iv r.cls, iv r.made, iv r.size, iv r.pk])
  obtain ⟨R4, F4⟩ := R3.setR (setM r.id (.agg [iv r.id, iv r.cls, iv r.made, iv r.size, iv r.pk]) w.kr)
  have b4 := R4.hb
  obtain ⟨R5, F5⟩ := R4.setB (w.used + r.size) w.time (.msl (K.length + 1) 0 ((idsL S.L).length + 1))
  have hus := hg.used
  have hok := hr
  simp only [Item.ok] at hok
  have w5 : IntKind.i64.wrap (w.used + r.size) = w.used + r.size := by rw [hR.used]; exact w64 (by omega) (by omega)
  simp only [Rw.cs] at b3 b4
  refine Awp.withT (fun T' => T' 2 = .rptr [.mptr F.b 0 0] 0 ∧ T' 3 = .rptr [iv r.id, iv r.cls, iv r.made, iv r.size, iv r.pk] 0) ⟨?_, ?_⟩ ?_
  · (first | (focus (simp only [go_sem, ↓reduceIte, simprocAttr, t2]; first | done | rfl)) | rfl)
  · (first | (focus (simp only [go_sem, ↓reduceIte, simprocAttr, t3]; first | done | rfl)) | rfl)
  clear t2 t3 t9 hbb T
  rintro T ⟨t2, t3⟩
  repeat' ((fail_if_success (apply stopR (id := 15))); (fail_if_success (apply stopS (id := 15))); first | refine spD (fun _ => ?_) (fun _ => ?_) | refine spF (fun _ => ?_) (fun _ => ?_) | (apply gT; (exact rfl)) | (apply off; (exact rfl); (exact rfl)) | (apply condT; (exact rfl)) | (apply condF; (exact rfl)) | ((first | (apply stp0; (exact rfl); (exact rfl)) | (apply stpN0; (exact rfl)) | apply gT | apply condT | ((first | apply bodyQ_d0 | apply bodyQ_d1 | apply bodyQ_d2 | apply bodyQ_d3 | apply bodyQ_d4); (exact .inr rfl); (rw [Try.results24]))); (first | (focus (simp only [go_sem, ↓reduceIte, simprocAttr, t2, t3, b3, b4, u3, w5] <;> rfl)) | exact rfl); (first | (fail_if_success (show okD _ _ _ _ _ _ _ _ _)) | (first | exact okT | exact okN | exact okE rfl)); (first | (fail_if_success (show Bel _ _)) | (focus first | exact .val _ | (simp [oneOf, Bel_iff_tup, Bel_iff_agg, Bel_iff_rsl, Bel_iff_fn, Bel_iff_rptr, Bel_val]; done)))) | refine thenQ_n ?_ | refine thenQ_r ?_ | refine thenQ_e ?_ | refine blockQ_n ?_ | refine blockQ_r ?_ | refine blockQ_e ?_ | (apply blockQ_o; (exact rfl)) | refine Awp.seq ?_ | refine Awp.skip ?_ | refine Awp.block ?_ | refine reg (fun s => s == 7) ?_ | (apply drwL mixed (fun s => s == 7) (.of fun _ => false); (exact rfl); (kernel_rfl); (kernel_rfl); simp only [List.pop_toArray, List.dropLast_cons_cons, List.dropLast_singleton, List.map_cons, List.map_nil]) | refine fin ?_ | refine Awp.ret ?_ | refine Awp.exit ?_ | ((first | (apply off; (exact rfl)) | apply condF); (first | (focus (simp only [go_sem, ↓reduceIte, simprocAttr, t2, t3, b3, b4, u3, w5] <;> rfl)) | exact rfl)))
  all_goals first | contradiction | (exfalso; omega) | skip
  have hKl : ∀ o n, w.ord = .msl o 0 n → o < K.length := fun o n e => by
    obtain ⟨v, hv, _⟩ := hO.blk e
    exact (List.getElem?_eq_some_iff.1 hv).1
  have hrow : (ownK (K ++ [AObj.cells [[iv r.id]] 2]) w.ord ++ [.cells (ints (insA (placeN S.L r) r.id (idsL S.L))) 2])[K.length + 1]? = some (.cells (ints (insA (placeN S.L r) r.id (idsL S.L))) 2) := by
    have e : (ownK (K ++ [AObj.cells [[iv r.id]] 2]) w.ord).length = K.length + 1 := by rw [ownK_len]; simp
    rw [← e]; exact get_new _ _
  have hid : idsL (S.ins r).L = insA (placeN S.L r) r.id (idsL S.L) := insA_map _ _ _ _
  have hor : OrdAt (ownK (K ++ [AObj.cells [[iv r.id]] 2]) w.ord ++ [.cells (ints (insA (placeN S.L r) r.id (idsL S.L))) 2]) (.msl (K.length + 1) 0 ((idsL S.L).length + 1)) (idsL (S.ins r).L) := by
    have := OrdAt.row (n := (idsL S.L).length + 1) hrow (by rw [hl3]; exact Nat.le_refl _) (by rw [← hl3]; omega)
    rw [List.take_of_length_le (by rw [hl3]; exact Nat.le_refl _)] at this
    rw [hid]; exact this
  have q1 := ((hor.set hR2.hb (fun v => b109_ne v) (.cells [[iv w.cap, iv w.used, iv w.time, .msl (K.length + 1) 0 ((idsL S.L).length + 1), .mp F.r, .mp F.s, .mp F.t]] 109)).set R3.hr (fun v => amap_ne v) (.amap (ents (setM r.id (.agg [iv r.id, iv r.cls, iv r.made, iv r.size, iv r.pk]) w.kr)))).set R4.hb (fun v => b109_ne v) (.cells [[iv w.cap, iv (w.used + r.size), iv w.time, .msl (K.length + 1) 0 ((idsL S.L).length + 1), .mp F.r, .mp F.s, .mp F.t]] 109)
  have q2 : MapIs (setM r.id (.agg [iv r.id, iv r.cls, iv r.made, iv r.size, iv r.pk]) w.kr) (recF (S.ins r).L) := hR.mr.set _ _ fun y => by
    show recF (insA (placeN S.L r) ⟨r, false, -1⟩ S.L) y = _
    unfold recF; rw [findH_ins (x := ⟨r, false, -1⟩) y _ _ hn]
    split <;> rfl
  have q3 : MapIs w.ks (smF (S.ins r).L) := hR.ms.congr fun y => by
    show smF (insA (placeN S.L r) ⟨r, false, -1⟩ S.L) y = _
    unfold smF; rw [findH_ins (x := ⟨r, false, -1⟩) y _ _ hn]
    split
    · rename_i e
      have e2 : findH S.L y = none := findH_none.2 (by rw [e]; exact hn)
      rw [e2]; rfl
    · rfl
  have q4 : MapIs w.kt (stF (S.ins r).L) := hR.mt.congr fun y => by
    show stF (insA (placeN S.L r) ⟨r, false, -1⟩ S.L) y = _
    unfold stF; rw [findH_ins (x := ⟨r, false, -1⟩) y _ _ hn]
    split
    · rename_i e
      have e2 : findH S.L y = none := findH_none.2 (by rw [e]; exact hn)
      rw [e2]; rfl
    · rfl
  have hF : FrO F w K (ownK (K ++ [AObj.cells [[iv r.id]] 2]) w.ord ++ [.cells (ints (insA (placeN S.L r) r.id (idsL S.L))) 2]) := ((((Fr.refl F K).app _).o (w := w)).own hO).app _
  refine h _ _ _ ?_ (Rep.mk (S := S.ins r) R5 hR.cap (by show w.used + r.size = S.used + r.size; rw [hR.used]) hR.time q1 q2 q3 q4) (((hF.trans F3).trans F4).trans F5) ⟨_, rfl⟩
  (first | (focus (simp only [go_sem, ↓reduceIte, simprocAttr, t2]; first | done | rfl)) | rfl)

end Go.Proofs.Ytlhchnnfgppneaa.Ab
namespace Go.Proofs.Ytlhchnnfgppneaa.Ab
open Go Go.RowKit Go.Proofs
set_option linter.unusedSimpArgs false
set_option linter.unusedVariables false
attribute [local irreducible] Awp wpO thenQ blockQ bodyQ ACalls stepA

def hdC : Code → Code
  | .seq x _ => x
  | c => c
def inC : Code → Code
  | .block _ c => c
  | .loop c => c
  | c => c

/-- what is taken off the end -/
structure Cut (H K : Hp) (F : Ft) (w w' : Rw) (S : Bf) (o : Nat) (a : AV) (ds : List Int) : Prop where
  rep : Rep K F w' S
  good : Good S
  row : w'.ord = .msl o 0 S.L.length
  lo : H.length ≤ o
  own : Own H.length 2 K a (ints ds)
  fr : FrO F w H K
  ne : ∀ m, a ≠ .msl o 0 m
  len : ds.length + S.L.length ≤ 257
  ge : F.b < H.length ∧ F.r < H.length ∧ F.s < H.length ∧ F.t < H.length

theorem FrO.ownA {F : Ft} {w : Rw} {H D : Hp} {t : TypeId} {a : AV} {es : List (List AV)} (h : FrO F w H D) (hO : Own H.length t D a es) : FrO F w H (ownK D a) :=
  ⟨by rw [ownK_len]; exact h.len, fun j hj b c d e f => by rw [ownK_low hO hj]; exact h.old j hj b c d e f⟩
theorem ints_one (v : List Int) : ∀ e ∈ ints v, e.length = 1 := by
  intro e he
  obtain ⟨x, _, rfl⟩ := List.mem_map.1 he
  rfl
theorem ints_app (v : List Int) (x : Int) : ints v ++ [[iv x]] = ints (v ++ [x]) := by simp [ints]

set_option maxRecDepth 8000 in
set_option maxHeartbeats 8000000 in
theorem put18 {H K : Hp} {F : Ft} {w w' : Rw} {S : Bf} {o : Nat} {a : AV} {ds : List Int} {T : Env} {Q : Exit → Env → Hp → Prop} (h : Cut H K F w w' S o a ds) {x : Hd} (hx : S.L.getLast? = some x)
    (t2 : T 2 = .rptr [.mptr F.b 0 0] 0) (t10 : T 10 = a)
    (hq : ∀ T2 K2 w2 a2, T2 2 = .rptr [.mptr F.b 0 0] 0 → T2 10 = a2 → Cut H K2 F w w2 S.drop o a2 (ds ++ [S.lastId]) → Q .normal T2 K2) :
    Awp Try.prog 131 none (tl (inC (tl (inC (inC (hdC (tl (tl (tl (tl (tl (tl (tl (tl (tl (tl (Try.f24.body.getD .skip))))))))))))))))) T K Q := by
  unfold Try.f24
  simp only [tl, hdC, inC, Option.getD_some]
  have hb := h.rep.raw.hb
  have hg := h.good
  obtain ⟨v, hv, hnv, h0, hids⟩ := h.rep.ord.blk h.row
  have hvl := ints_len v
  have hs := last_split hx
  obtain ⟨m, hm⟩ : ∃ m, S.L.length = m + 1 := ⟨S.L.dropLast.length, by
    have := congrArg List.length hs
    rw [List.length_append, List.length_singleton] at this
    exact this⟩
  have hlen := hg.len
  have hm2 : m = S.L.dropLast.length := by rw [List.length_dropLast]; omega
  have hvm : v[m]? = some x.r.id := by
    have h1 : (idsL S.L)[m]? = some x.r.id := by
      unfold idsL
      rw [List.getElem?_map]
      have : S.L[m]? = some x := by conv => lhs; rw [hs]; simp [hm2]
      rw [this]; rfl
    rw [hids, List.getElem?_take, if_pos (by omega)] at h1
    exact h1
  have hrow : (ints v)[m]? = some [iv x.r.id] := nthMap (fun x => [iv x]) hvm
  have hrow2 := h.row
  rw [hm] at hnv hrow2
  have wm : IntKind.i64.wrap (((m + 1 : Nat) : Int) - 1) = (m : Int) := by rw [w64 (by omega) (by omega)]; omega
  have hsl : sliceA Try.prog 46 (.msl o 0 (m + 1)) none (some (iv m)) none = some (.msl o 0 m) := by
    rw [sl46]
    unfold sliceB bnd
    have e0 : (0 : Int) ≤ (m : Int) := by omega
    simp only [e0, if_true, Int.toNat_natCast]
    rw [if_pos (by omega)]
  have hm1 : m < m + 1 := Nat.lt_succ_self m
  obtain ⟨R1, F1⟩ := h.rep.raw.setB w'.used w'.time (.msl o 0 m)
  have b1 := R1.hb
  simp only [Rw.cs, hrow2] at hb b1
  repeat' ((fail_if_success (apply stopR (id := 21))); (fail_if_success (apply stopS (id := 21))); first | refine spD (fun _ => ?_) (fun _ => ?_) | refine spF (fun _ => ?_) (fun _ => ?_) | (apply gT; (exact rfl)) | (apply off; (exact rfl); (exact rfl)) | (apply condT; (exact rfl)) | (apply condF; (exact rfl)) | ((first | (apply stp0; (exact rfl); (exact rfl)) | (apply stpN0; (exact rfl)) | apply gT | apply condT | ((first | apply bodyQ_d0 | apply bodyQ_d1 | apply bodyQ_d2 | apply bodyQ_d3 | apply bodyQ_d4); (exact .inr rfl); (rw [Try.results24]))); (first | (focus (simp only [go_sem, ↓reduceIte, simprocAttr, t2, t10, hb, hv, hvl, hrow, wm, hsl, hm1, Nat.zero_add, b1] <;> rfl)) | exact rfl); (first | (fail_if_success (show okD _ _ _ _ _ _ _ _ _)) | (first | exact okT | exact okN | exact okE rfl)); (first | (fail_if_success (show Bel _ _)) | (focus first | exact .val _ | (simp [oneOf, Bel_iff_tup, Bel_iff_agg, Bel_iff_rsl, Bel_iff_fn, Bel_iff_rptr, Bel_val]; done)))) | refine thenQ_n ?_ | refine thenQ_r ?_ | refine thenQ_e ?_ | refine blockQ_n ?_ | refine blockQ_r ?_ | refine blockQ_e ?_ | (apply blockQ_o; (exact rfl)) | refine Awp.seq ?_ | refine Awp.skip ?_ | refine Awp.block ?_ | refine reg (fun s => s == 7) ?_ | (apply drwL mixed (fun s => s == 7) (.of fun _ => false); (exact rfl); (kernel_rfl); (kernel_rfl); simp only [List.pop_toArray, List.dropLast_cons_cons, List.dropLast_singleton, List.map_cons, List.map_nil]) | refine fin ?_ | refine Awp.ret ?_ | refine Awp.exit ?_ | ((first | (apply off; (exact rfl)) | apply condF); (first | (focus (simp only [go_sem, ↓reduceIte, simprocAttr, t2, t10, hb, hv, hvl, hrow, wm, hsl, hm1, Nat.zero_add, b1] <;> rfl)) | exact rfl)))
  all_goals first | contradiction | (exfalso; omega) | skip
  refine Awp.withT (fun T' => T' 2 = .rptr [.mptr F.b 0 0] 0 ∧ T' 10 = a ∧ T' 12 = iv x.r.id) ⟨?_, ?_, ?_⟩ ?_
  · (first | (focus (simp only [go_sem, ↓reduceIte, simprocAttr, t2]; first | done | rfl)) | rfl)
  · (first | (focus (simp only [go_sem, ↓reduceIte, simprocAttr, t10]; first | done | rfl)) | rfl)
  · (first | (focus (simp only [go_sem, ↓reduceIte, simprocAttr]; first | done | rfl)) | rfl)
  clear t2 t10 T
  rintro T ⟨t2, t10, t12⟩
  obtain ⟨g1, g2, g3, g4⟩ := h.ge
  have hO1 := h.own.setLow g1 (.cells [[iv w'.cap, iv w'.used, iv w'.time, .msl o 0 m, .mp F.r, .mp F.s, .mp F.t]] 109)
  have hv1 : (K.set F.b (.cells [[iv w'.cap, iv w'.used, iv w'.time, .msl o 0 m, .mp F.r, .mp F.s, .mp F.t]] 109))[o]? = some (.cells (ints v) 2) := by
    have := h.lo
    rw [List.getElem?_set_ne (by omega)]; exact hv
  have hFr1 := h.fr.trans F1
  generalize List.set K F.b (.cells [[iv w'.cap, iv w'.used, iv w'.time, .msl o 0 m, .mp F.r, .mp F.s, .mp F.t]] 109) = B at *
  have hxm : S.L[m]? = some x := by conv => lhs; rw [hs]; simp [hm2]
  have hfx := findH_at hg.nd hxm
  have hk1 : (getM w'.kr x.r.id).getD recZ = .agg x.r.cs := by rw [h.rep.mr.get]; unfold recF; rw [hfx]; rfl
  have hk2 : (getM w'.ks x.r.id).getD (iv 0) = iv (if x.sm then 1 else 0) := by rw [h.rep.ms.get]; unfold smF; rw [hfx]; cases e : x.sm <;> simp [e]
  have hby : (if (if x.sm then (1 : Int) else 0) > 0 then x.r.pk else x.r.size) = x.bytes := by unfold Hd.bytes; cases e : x.sm <;> simp
  have hus := hg.used
  have hok := hg.ok x (List.mem_of_getElem? hxm)
  have hbd : 1 ≤ x.bytes ∧ x.bytes ≤ 16777216 := by
    simp only [Item.ok] at hok
    unfold Hd.bytes; split <;> omega
  have hrm := remove_ok R1 x.r.id x.r (if x.sm then 1 else 0) hk1 hk2 (by
    rw [hby]
    show -1099511627776 ≤ w'.used - x.bytes ∧ w'.used - x.bytes ≤ 1099511627776
    rw [h.rep.used]
    omega)
  rw [hby] at hrm
  repeat' (first | refine spD (fun _ => ?_) (fun _ => ?_) | refine spF (fun _ => ?_) (fun _ => ?_) | (apply gT; (exact rfl)) | (apply off; (exact rfl); (exact rfl)) | (apply condT; (exact rfl)) | (apply condF; (exact rfl)) | ((first | (apply stp0; (exact rfl); (exact rfl)) | (apply stpN0; (exact rfl)) | apply gT | apply condT | ((first | apply bodyQ_d0 | apply bodyQ_d1 | apply bodyQ_d2 | apply bodyQ_d3 | apply bodyQ_d4); (exact .inr rfl); (rw [Try.results24]))); (first | (focus (simp only [go_sem, ↓reduceIte, simprocAttr, t2, t10, t12] <;> rfl)) | exact rfl); (first | (fail_if_success (show okD _ _ _ _ _ _ _ _ _)) | (first | exact okT | exact okN | exact okE rfl)); (first | (fail_if_success (show Bel _ _)) | (focus first | exact .val _ | (simp [oneOf, Bel_iff_tup, Bel_iff_agg, Bel_iff_rsl, Bel_iff_fn, Bel_iff_rptr, Bel_val]; done)))) | refine thenQ_n ?_ | refine thenQ_r ?_ | refine thenQ_e ?_ | refine blockQ_n ?_ | refine blockQ_r ?_ | refine blockQ_e ?_ | (apply blockQ_o; (exact rfl)) | refine Awp.seq ?_ | refine Awp.skip ?_ | refine Awp.block ?_ | refine reg (fun s => s == 7) ?_ | (apply drwE mixed (fun s => s == 7); (kernel_rfl)) | refine fin ?_ | refine Awp.ret ?_ | refine Awp.exit ?_ | ((first | (apply off; (exact rfl)) | apply condF); (first | (focus (simp only [go_sem, ↓reduceIte, simprocAttr, t2, t10, t12] <;> rfl)) | exact rfl)))
  all_goals first | contradiction | (exfalso; omega) | skip
  refine cal rfl rfl rfl ?_ (show ACallV Try.prog (.fn (.func 61) []) [.mptr F.b 0 0, iv x.r.id] B _ from hrm) ?_
  · (first | (focus (simp only [go_sem, ↓reduceIte, simprocAttr, t2, t12]; first | done | rfl)) | rfl)
  rintro v1 H1 ⟨rfl, R2, F2⟩
  have hHl : B.length ≤ H1.length := F2.len
  have hol : o < B.length := (List.getElem?_eq_some_iff.1 hv1).1
  have hnf : ∀ j, H.length ≤ j → j ≠ F.b ∧ j ≠ F.r ∧ j ≠ F.s ∧ j ≠ F.t := fun j hj => ⟨by omega, by omega, by omega, by omega⟩
  have hO2 : Own H.length 2 H1 a (ints ds) := hO1.get fun j ob hj hb => by
    obtain ⟨e1, e2, e3, e4⟩ := hnf j hj
    rw [F2.old j (List.getElem?_eq_some_iff.1 hb).1 e1 e2 e3 e4]; exact hb
  have hv2 : H1[o]? = some (.cells (ints v) 2) := by
    obtain ⟨e1, e2, e3, e4⟩ := hnf o h.lo
    rw [F2.old o hol e1 e2 e3 e4]; exact hv1
  have hlen2 := h.len
  have hOR : OwnR H.length 2 1 8 H1 a (ints ds) := ⟨hO2, ints_one _, by rw [ints_len]; omega⟩
  have hFr2 := hFr1.trans F2
  repeat' (first | refine spD (fun _ => ?_) (fun _ => ?_) | refine spF (fun _ => ?_) (fun _ => ?_) | (apply gT; (exact rfl)) | (apply off; (exact rfl); (exact rfl)) | (apply condT; (exact rfl)) | (apply condF; (exact rfl)) | ((first | (apply stp0; (exact rfl); (exact rfl)) | (apply stpN0; (exact rfl)) | apply gT | apply condT | ((first | apply bodyQ_d0 | apply bodyQ_d1 | apply bodyQ_d2 | apply bodyQ_d3 | apply bodyQ_d4); (exact .inr rfl); (rw [Try.results24]))); (first | (focus (simp only [go_sem, ↓reduceIte, simprocAttr, t2, t10, t12] <;> rfl)) | exact rfl); (first | (fail_if_success (show okD _ _ _ _ _ _ _ _ _)) | (first | exact okT | exact okN | exact okE rfl)); (first | (fail_if_success (show Bel _ _)) | (focus first | exact .val _ | (simp [oneOf, Bel_iff_tup, Bel_iff_agg, Bel_iff_rsl, Bel_iff_fn, Bel_iff_rptr, Bel_val]; done)))) | (apply stpApp; (exact rfl); (first | exact hOR); (iterate 2 (first | (focus (simp only [go_sem, ↓reduceIte, simprocAttr, t2, t10, t12] <;> rfl)) | rfl)); (first | rfl | (simp [AV.isCell]; done)); (first | rfl | (simp; done)); (first | exact ap39 | exact ap44 | exact ap46 | exact ap61 | exact ap63 | exact ap75 | exact ap86 | exact ap101 | exact ap102); (first | exact okT | exact okN | exact okE rfl)) | refine thenQ_n ?_ | refine thenQ_r ?_ | refine thenQ_e ?_ | refine blockQ_n ?_ | refine blockQ_r ?_ | refine blockQ_e ?_ | (apply blockQ_o; (exact rfl)) | refine Awp.seq ?_ | refine Awp.skip ?_ | refine Awp.block ?_ | refine reg (fun s => s == 7) ?_ | (apply drwE mixed (fun s => s == 7); (kernel_rfl)) | refine fin ?_ | refine Awp.ret ?_ | refine Awp.exit ?_ | ((first | (apply off; (exact rfl)) | apply condF); (first | (focus (simp only [go_sem, ↓reduceIte, simprocAttr, t2, t10, t12] <;> rfl)) | exact rfl)))
  all_goals first | contradiction | (exfalso; omega) | skip
  obtain ⟨d1, d2⟩ := drop_eq hx
  have hK2 : ∀ j, j < H.length → (ownK H1 a ++ [AObj.cells (ints ds ++ [[iv x.r.id]]) 2])[j]? = H1[j]? := fun j hj => by
    rw [List.getElem?_append_left (by rw [ownK_len]; have := hFr2.len; omega)]; exact ownK_low hO2 hj
  have R3 : RepW (ownK H1 a ++ [AObj.cells (ints ds ++ [[iv x.r.id]]) 2]) F _ := ⟨(hK2 _ g1).trans R2.hb, (hK2 _ g2).trans R2.hr, (hK2 _ g3).trans R2.hs, (hK2 _ g4).trans R2.ht, R2.rs, R2.rt, R2.st⟩
  have hv3 : (ownK H1 a ++ [AObj.cells (ints ds ++ [[iv x.r.id]]) 2])[o]? = some (.cells (ints v) 2) := by
    rw [List.getElem?_append_left (by rw [ownK_len]; omega), ownK_get fun o' n e => h.ne n (by rw [e, hO2.zero _ _ _ e])]; exact hv2
  have hLs : idsL S.L.dropLast = v.take m := by
    have e1 : idsL S.L = idsL S.L.dropLast ++ [x.r.id] := by
      have := congrArg idsL hs
      unfold idsL at this ⊢
      rw [List.map_append] at this
      exact this
    have e2 := hids
    rw [e1, hm, List.take_add_one, hvm] at e2
    exact (List.append_inj' e2 (by simp)).1
  have hnd2 : (idsL (S.L.dropLast ++ [x])).Nodup := by rw [← hs]; exact hg.nd
  have q1 : OrdAt (ownK H1 a ++ [AObj.cells (ints ds ++ [[iv x.r.id]]) 2]) (.msl o 0 m) (idsL S.drop.L) := by
    rw [d1]
    show OrdAt _ _ (idsL S.L.dropLast)
    rw [hLs]; exact .row hv3 (by omega) h0
  have q2 : MapIs (delM x.r.id w'.kr) (recF S.drop.L) := h.rep.mr.del _ fun y => by
    rw [d1]
    show recF S.L.dropLast y = _
    unfold recF; rw [findH_last y S.L.dropLast hnd2, ← hs]
    split <;> rfl
  have q3 : MapIs (delM x.r.id w'.ks) (smF S.drop.L) := h.rep.ms.del _ fun y => by
    rw [d1]
    show smF S.L.dropLast y = _
    unfold smF; rw [findH_last y S.L.dropLast hnd2, ← hs]
    split <;> rfl
  have q4 : MapIs (delM x.r.id w'.kt) (stF S.drop.L) := h.rep.mt.del _ fun y => by
    rw [d1]
    show stF S.L.dropLast y = _
    unfold stF; rw [findH_last y S.L.dropLast hnd2, ← hs]
    split <;> rfl
  have hl3 : S.drop.L.length = m := by rw [d1]; exact hm2.symm
  refine hq _ _ _ (.msl H1.length 0 ((ints ds).length + 1)) ?_ ?_ ⟨Rep.mk (S := S.drop) R3 (by rw [d1]; exact h.rep.cap) (by rw [d1]; show w'.used - x.bytes = S.used - x.bytes; rw [h.rep.used]) (by rw [d1]; exact h.rep.time) q1 q2 q3 q4, hg.dropG hx, ?_, h.lo, ?_, ?_, ?_, ?_, h.ge⟩
  · (first | (focus (simp only [go_sem, ↓reduceIte, simprocAttr, t2]; first | done | rfl)) | rfl)
  · (first | (focus (simp only [go_sem, ↓reduceIte, simprocAttr]; first | done | rfl)) | rfl)
  · show AV.msl o 0 m = _; rw [hl3]
  · rw [d2, ← ints_app]
    exact hO2.next hFr2.len [iv x.r.id] rfl rfl
  · exact (hFr2.ownA hO2).app _
  · intro k e
    injection e with e
    omega
  · rw [hl3, List.length_append, List.length_singleton]; omega

end Go.Proofs.Ytlhchnnfgppneaa.Ab
