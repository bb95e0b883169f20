/- The reference's buffer: its form in memory; bytes, Used, loose. -/
import Derived.Test.YtlhchnnfgppneaaO3
namespace Go.Proofs.Ytlhchnnfgppneaa.Ab
open Go Go.RowKit Go.Proofs
set_option linter.unusedSimpArgs false
set_option linter.unusedVariables false
attribute [local irreducible] Awp wpO thenQ blockQ bodyQ ACalls stepA

/-- a list of what is held, as a slice that may turn -/
inductive HdAt (H : Hp) : AV → List Hd → Prop
  | nil : HdAt H nilS []
  | row {o n : Nat} {v : List Hd} (hb : H[o]? = some (.cells (hds v) 53)) (hn : n ≤ v.length) : HdAt H (.msl o 0 n) (v.take n)
theorem HdAt.get {H H' : Hp} {a : AV} {L : List Hd} (h : HdAt H a L) (hk : ∀ o n v, a = .msl o 0 n → H[o]? = some (.cells (hds v) 53) → H'[o]? = some (.cells (hds v) 53)) : HdAt H' a L := by
  cases h with
  | nil => exact .nil
  | row hb hn => exact .row (hk _ _ _ rfl hb) hn
theorem HdAt.grow {H H' : Hp} {a : AV} {L : List Hd} (h : HdAt H a L) (hG : Grow H H') : HdAt H' a L := h.get fun _ _ _ _ h => hG.get h
/-- the reference's buffer -/
structure Rq (H : Hp) (q : Nat) (a : AV) (c t : Int) (L : List Hd) : Prop where
  hb : H[q]? = some (.cells [[iv c, iv t, a]] 73)
  row : HdAt H a L
theorem Rq.grow {H H' : Hp} {q : Nat} {a : AV} {c t : Int} {L : List Hd} (h : Rq H q a c t L) (hG : Grow H H') : Rq H' q a c t L := ⟨hG.get h.hb, h.row.grow hG⟩

set_option maxRecDepth 8000 in
theorem rbytes_ok (H : Hp) (h : Hd) : CallsTo Try.prog 65 [.agg h.cs] H (iv h.bytes) H := by
  unfold Hd.bytes
  cases e : h.sm with
  | true =>
    refine ACalls.of_body Try.func65 rfl (by kernel_rfl) (by rw [Try.ntmps65]; simp) ?_; rw [Try.ntmps65]
    repeat' (first | refine spD (fun _ => ?_) (fun _ => ?_) | refine spF (fun _ => ?_) (fun _ => ?_) | (apply gT; (exact rfl)) | (apply off; (exact rfl); (exact rfl)) | (apply condT; (exact rfl)) | (apply condF; (exact rfl)) | ((first | (apply stp0; (exact rfl); (exact rfl)) | (apply stpN0; (exact rfl)) | apply gT | apply condT | ((first | apply bodyQ_d0 | apply bodyQ_d1 | apply bodyQ_d2 | apply bodyQ_d3 | apply bodyQ_d4); (exact .inr rfl); (rw [Try.results65]))); (first | (focus (simp only [go_sem, ↓reduceIte, simprocAttr, Hd.cs, e] <;> rfl)) | exact rfl); (first | (fail_if_success (show okD _ _ _ _ _ _ _ _ _)) | (first | exact okT | exact okN | exact okE rfl)); (first | (fail_if_success (show Bel _ _)) | (focus first | exact .val _ | (simp [oneOf, Bel_iff_tup, Bel_iff_agg, Bel_iff_rsl, Bel_iff_fn, Bel_iff_rptr, Bel_val]; done)))) | refine thenQ_n ?_ | refine thenQ_r ?_ | refine thenQ_e ?_ | refine blockQ_n ?_ | refine blockQ_r ?_ | refine blockQ_e ?_ | (apply blockQ_o; (exact rfl)) | refine Awp.seq ?_ | refine Awp.skip ?_ | refine Awp.block ?_ | refine reg (fun s => false) ?_ | (apply drwE mixed (fun s => false); (kernel_rfl)) | refine fin ?_ | refine Awp.ret ?_ | refine Awp.exit ?_ | ((first | (apply off; (exact rfl)) | apply condF); (first | (focus (simp only [go_sem, ↓reduceIte, simprocAttr, Hd.cs, e] <;> rfl)) | exact rfl)))
    all_goals first | contradiction | (exfalso; omega) | rfl | skip
  | false =>
    refine ACalls.of_body Try.func65 rfl (by kernel_rfl) (by rw [Try.ntmps65]; simp) ?_; rw [Try.ntmps65]
    repeat' (first | refine spD (fun _ => ?_) (fun _ => ?_) | refine spF (fun _ => ?_) (fun _ => ?_) | (apply gT; (exact rfl)) | (apply off; (exact rfl); (exact rfl)) | (apply condT; (exact rfl)) | (apply condF; (exact rfl)) | ((first | (apply stp0; (exact rfl); (exact rfl)) | (apply stpN0; (exact rfl)) | apply gT | apply condT | ((first | apply bodyQ_d0 | apply bodyQ_d1 | apply bodyQ_d2 | apply bodyQ_d3 | apply bodyQ_d4); (exact .inr rfl); (rw [Try.results65]))); (first | (focus (simp only [go_sem, ↓reduceIte, simprocAttr, Hd.cs, e] <;> rfl)) | exact rfl); (first | (fail_if_success (show okD _ _ _ _ _ _ _ _ _)) | (first | exact okT | exact okN | exact okE rfl)); (first | (fail_if_success (show Bel _ _)) | (focus first | exact .val _ | (simp [oneOf, Bel_iff_tup, Bel_iff_agg, Bel_iff_rsl, Bel_iff_fn, Bel_iff_rptr, Bel_val]; done)))) | refine thenQ_n ?_ | refine thenQ_r ?_ | refine thenQ_e ?_ | refine blockQ_n ?_ | refine blockQ_r ?_ | refine blockQ_e ?_ | (apply blockQ_o; (exact rfl)) | refine Awp.seq ?_ | refine Awp.skip ?_ | refine Awp.block ?_ | refine reg (fun s => false) ?_ | (apply drwE mixed (fun s => false); (kernel_rfl)) | refine fin ?_ | refine Awp.ret ?_ | refine Awp.exit ?_ | ((first | (apply off; (exact rfl)) | apply condF); (first | (focus (simp only [go_sem, ↓reduceIte, simprocAttr, Hd.cs, e] <;> rfl)) | exact rfl)))
    all_goals first | contradiction | (exfalso; omega) | rfl | skip

def sumH (L : List Hd) : Int := (L.map Hd.bytes).sum
theorem sumH_succ {L : List Hd} {k : Nat} {h : Hd} (hk : L[k]? = some h) : sumH (L.take (k + 1)) = sumH (L.take k) + h.bytes := by
  unfold sumH
  rw [List.take_add_one, hk]; simp
theorem sumH_in : ∀ L : List Hd, (∀ h ∈ L, h.r.ok) → 0 ≤ sumH L ∧ sumH L ≤ 16777216 * L.length := by
  intro L
  induction L with
  | nil => simp [sumH]
  | cons x l ih =>
    intro h
    have h1 := ih fun y hy => h y (by simp [hy])
    have h2 := h x (by simp)
    simp only [Item.ok] at h2
    have e : sumH (x :: l) = x.bytes + sumH l := by simp [sumH]
    have e2 : (16777216 : Int) * ((x :: l).length : Nat) = 16777216 * l.length + 16777216 := by rw [List.length_cons, Int.natCast_succ, Int.mul_add, Int.mul_one]
    have hb : 1 ≤ x.bytes ∧ x.bytes ≤ 16777216 := by unfold Hd.bytes; split <;> omega
    omega

set_option maxRecDepth 8000 in
theorem rUsed_ok {H : Hp} {q : Nat} {a : AV} {c t : Int} {L : List Hd} (hQ : Rq H q a c t L) (hk : ∀ h ∈ L, h.r.ok) (hl : L.length ≤ 257) : CallsTo Try.prog 37 [.mptr q 0 0] H (iv (sumH L)) H := by
  have hb := hQ.hb
  cases hQ.row with
  | nil =>
    refine ACalls.of_body Try.func37 rfl (by kernel_rfl) (by rw [Try.ntmps37]; simp) ?_; rw [Try.ntmps37]
    repeat' (first | refine spD (fun _ => ?_) (fun _ => ?_) | refine spF (fun _ => ?_) (fun _ => ?_) | (apply gT; (exact rfl)) | (apply off; (exact rfl); (exact rfl)) | (apply condT; (exact rfl)) | (apply condF; (exact rfl)) | ((first | (apply stp0; (exact rfl); (exact rfl)) | (apply stpN0; (exact rfl)) | apply gT | apply condT | ((first | apply bodyQ_d0 | apply bodyQ_d1 | apply bodyQ_d2 | apply bodyQ_d3 | apply bodyQ_d4); (exact .inr rfl); (rw [Try.results37]))); (first | (focus (simp only [go_sem, ↓reduceIte, simprocAttr] <;> rfl)) | exact rfl); (first | (fail_if_success (show okD _ _ _ _ _ _ _ _ _)) | (first | exact okT | exact okN | exact okE rfl)); (first | (fail_if_success (show Bel _ _)) | (focus first | exact .val _ | (simp [oneOf, Bel_iff_tup, Bel_iff_agg, Bel_iff_rsl, Bel_iff_fn, Bel_iff_rptr, Bel_val]; done)))) | refine thenQ_n ?_ | refine thenQ_r ?_ | refine thenQ_e ?_ | refine blockQ_n ?_ | refine blockQ_r ?_ | refine blockQ_e ?_ | (apply blockQ_o; (exact rfl)) | refine Awp.seq ?_ | refine Awp.skip ?_ | refine Awp.block ?_ | refine reg (fun s => false) ?_ | (apply drwE mixed (fun s => false); (kernel_rfl)) | refine fin ?_ | refine Awp.ret ?_ | refine Awp.exit ?_ | ((first | (apply off; (exact rfl)) | apply condF); (first | (focus (simp only [go_sem, ↓reduceIte, simprocAttr] <;> rfl)) | exact rfl)))
    all_goals first | contradiction | (exfalso; omega) | skip
    refine Awp.loop (ι := Nat) (fun _ T' K => T' 0 = .mptr q 0 0 ∧ T' 4 = iv 0 ∧ T' 3 = iv 0 ∧ K = H) (fun m => m) 0 ?_ ?_
    · refine ⟨?_, ?_, ?_, rfl⟩
      · (first | (focus (simp only [go_sem, ↓reduceIte, simprocAttr]; first | done | rfl)) | rfl)
      · (first | (focus (simp only [go_sem, ↓reduceIte, simprocAttr]; first | done | rfl)) | rfl)
      · (first | (focus (simp only [go_sem, ↓reduceIte, simprocAttr]; first | done | rfl)) | rfl)
    rintro m T K ⟨t0, t4, t3, hK⟩
    rw [hK]
    repeat' (first | refine spD (fun _ => ?_) (fun _ => ?_) | refine spF (fun _ => ?_) (fun _ => ?_) | (apply gT; (exact rfl)) | (apply off; (exact rfl); (exact rfl)) | (apply condT; (exact rfl)) | (apply condF; (exact rfl)) | ((first | (apply stp0; (exact rfl); (exact rfl)) | (apply stpN0; (exact rfl)) | apply gT | apply condT | ((first | apply bodyQ_d0 | apply bodyQ_d1 | apply bodyQ_d2 | apply bodyQ_d3 | apply bodyQ_d4); (exact .inr rfl); (rw [Try.results37]))); (first | (focus (simp only [go_sem, ↓reduceIte, simprocAttr, t0, t4, t3, hb] <;> rfl)) | exact rfl); (first | (fail_if_success (show okD _ _ _ _ _ _ _ _ _)) | (first | exact okT | exact okN | exact okE rfl)); (first | (fail_if_success (show Bel _ _)) | (focus first | exact .val _ | (simp [oneOf, Bel_iff_tup, Bel_iff_agg, Bel_iff_rsl, Bel_iff_fn, Bel_iff_rptr, Bel_val]; done)))) | refine thenQ_n ?_ | refine thenQ_r ?_ | refine thenQ_e ?_ | refine blockQ_n ?_ | refine blockQ_r ?_ | refine blockQ_e ?_ | (apply blockQ_o; (exact rfl)) | refine Awp.seq ?_ | refine Awp.skip ?_ | refine Awp.block ?_ | refine reg (fun s => false) ?_ | (apply drwE mixed (fun s => false); (kernel_rfl)) | refine fin ?_ | refine Awp.ret ?_ | refine Awp.exit ?_ | ((first | (apply off; (exact rfl)) | apply condF); (first | (focus (simp only [go_sem, ↓reduceIte, simprocAttr, t0, t4, t3, hb] <;> rfl)) | exact rfl)))
    all_goals first | contradiction | (exfalso; omega) | rfl | skip
  | row hbv hn =>
    rename_i o n v
    have hlm : n ≤ maxLen := by rw [List.length_take, Nat.min_eq_left hn] at hl; simp only [maxLen]; omega
    have hvl := hds_len v
    have hln : (v.take n).length = n := by rw [List.length_take, Nat.min_eq_left hn]
    refine ACalls.of_body Try.func37 rfl (by kernel_rfl) (by rw [Try.ntmps37]; simp) ?_; rw [Try.ntmps37]
    repeat' (first | refine spD (fun _ => ?_) (fun _ => ?_) | refine spF (fun _ => ?_) (fun _ => ?_) | (apply gT; (exact rfl)) | (apply off; (exact rfl); (exact rfl)) | (apply condT; (exact rfl)) | (apply condF; (exact rfl)) | ((first | (apply stp0; (exact rfl); (exact rfl)) | (apply stpN0; (exact rfl)) | apply gT | apply condT | ((first | apply bodyQ_d0 | apply bodyQ_d1 | apply bodyQ_d2 | apply bodyQ_d3 | apply bodyQ_d4); (exact .inr rfl); (rw [Try.results37]))); (first | (focus (simp only [go_sem, ↓reduceIte, simprocAttr] <;> rfl)) | exact rfl); (first | (fail_if_success (show okD _ _ _ _ _ _ _ _ _)) | (first | exact okT | exact okN | exact okE rfl)); (first | (fail_if_success (show Bel _ _)) | (focus first | exact .val _ | (simp [oneOf, Bel_iff_tup, Bel_iff_agg, Bel_iff_rsl, Bel_iff_fn, Bel_iff_rptr, Bel_val]; done)))) | refine thenQ_n ?_ | refine thenQ_r ?_ | refine thenQ_e ?_ | refine blockQ_n ?_ | refine blockQ_r ?_ | refine blockQ_e ?_ | (apply blockQ_o; (exact rfl)) | refine Awp.seq ?_ | refine Awp.skip ?_ | refine Awp.block ?_ | refine reg (fun s => false) ?_ | (apply drwE mixed (fun s => false); (kernel_rfl)) | refine fin ?_ | refine Awp.ret ?_ | refine Awp.exit ?_ | ((first | (apply off; (exact rfl)) | apply condF); (first | (focus (simp only [go_sem, ↓reduceIte, simprocAttr] <;> rfl)) | exact rfl)))
    all_goals first | contradiction | (exfalso; omega) | skip
    refine Awp.loop (ι := Nat) (fun i T' K => i ≤ n ∧ T' 0 = .mptr q 0 0 ∧ T' 4 = iv i ∧ T' 3 = iv (sumH ((v.take n).take i)) ∧ K = H) (fun i => n - i) 0 ?_ ?_
    · refine ⟨Nat.zero_le _, ?_, ?_, ?_, rfl⟩
      · (first | (focus (simp only [go_sem, ↓reduceIte, simprocAttr]; first | done | rfl)) | rfl)
      · (first | (focus (simp only [go_sem, ↓reduceIte, simprocAttr]; first | done | rfl)) | rfl)
      · (first | (focus (simp only [go_sem, ↓reduceIte, simprocAttr]; first | done | rfl)) | rfl)
    rintro i T K ⟨hi, t0, t4, t3, hK⟩
    rw [hK]
    by_cases hlt : i < n
    · obtain ⟨h, hh⟩ := nth (l := v.take n) (i := i) (by omega)
      have hvi : (hds v)[i]? = some [iv h.r.id, iv h.r.cls, iv h.r.made, iv h.r.size, iv h.r.pk, bv h.sm, iv h.sent] := by
        rw [List.getElem?_take, if_pos hlt] at hh
        exact hds_at hh
      have hsc := sumH_succ hh
      have hs1 := sumH_in ((v.take n).take (i + 1)) (fun x hx => hk x (List.mem_of_mem_take hx))
      have hs2 : ((v.take n).take (i + 1)).length ≤ 257 := Nat.le_trans (List.length_take_le' ..) hl
      rw [hsc] at hs1
      have ww : IntKind.i64.wrap (sumH ((v.take n).take i) + h.bytes) = sumH ((v.take n).take i) + h.bytes := w64 (by omega) (by omega)
      have hsu := wsucc hlt hlm
      have hby := rbytes_ok H h
      simp only [Hd.cs] at hby
      repeat' (first | refine spD (fun _ => ?_) (fun _ => ?_) | refine spF (fun _ => ?_) (fun _ => ?_) | (apply gT; (exact rfl)) | (apply off; (exact rfl); (exact rfl)) | (apply condT; (exact rfl)) | (apply condF; (exact rfl)) | ((first | (apply stp0; (exact rfl); (exact rfl)) | (apply stpN0; (exact rfl)) | apply gT | apply condT | ((first | apply bodyQ_d0 | apply bodyQ_d1 | apply bodyQ_d2 | apply bodyQ_d3 | apply bodyQ_d4); (exact .inr rfl); (rw [Try.results37]))); (first | (focus (simp only [go_sem, ↓reduceIte, simprocAttr, Int.ofNat_lt.2 hlt, t0, t4, t3, hb, hbv, hvl, hvi, hlt, Nat.zero_add, ww, hsu] <;> rfl)) | exact rfl); (first | (fail_if_success (show okD _ _ _ _ _ _ _ _ _)) | (first | exact okT | exact okN | exact okE rfl)); (first | (fail_if_success (show Bel _ _)) | (focus first | exact .val _ | (simp [oneOf, Bel_iff_tup, Bel_iff_agg, Bel_iff_rsl, Bel_iff_fn, Bel_iff_rptr, Bel_val]; done)))) | (apply calTo0; (exact rfl); (iterate 2 (simp only [go_sem, ↓reduceIte, simprocAttr, Int.ofNat_lt.2 hlt, t0, t4, t3, hb, hbv, hvl, hvi, hlt, Nat.zero_add, ww, hsu]; rfl)); (first | exact hby); (first | exact okT | exact okN | exact okE rfl)) | refine thenQ_n ?_ | refine thenQ_r ?_ | refine thenQ_e ?_ | refine blockQ_n ?_ | refine blockQ_r ?_ | refine blockQ_e ?_ | (apply blockQ_o; (exact rfl)) | refine Awp.seq ?_ | refine Awp.skip ?_ | refine Awp.block ?_ | refine reg (fun s => false) ?_ | (apply drwE mixed (fun s => false); (kernel_rfl)) | refine fin ?_ | refine Awp.ret ?_ | refine Awp.exit ?_ | ((first | (apply off; (exact rfl)) | apply condF); (first | (focus (simp only [go_sem, ↓reduceIte, simprocAttr, Int.ofNat_lt.2 hlt, t0, t4, t3, hb, hbv, hvl, hvi, hlt, Nat.zero_add, ww, hsu] <;> rfl)) | exact rfl)))
      all_goals first | contradiction | (exfalso; omega) | skip
      refine ⟨i + 1, ⟨hlt, ?_, ?_, ?_, rfl⟩, Nat.sub_lt_sub_left hlt (Nat.lt_succ_self i)⟩
      · (first | (focus (simp only [go_sem, ↓reduceIte, simprocAttr, t0]; first | done | rfl)) | rfl)
      · (first | (focus (simp only [go_sem, ↓reduceIte, simprocAttr, hsu]; first | done | rfl)) | rfl)
      · rw [hsc]; (first | (focus (simp only [go_sem, ↓reduceIte, simprocAttr, ww]; first | done | rfl)) | rfl)
    · have hie : i = n := Nat.le_antisymm hi (Nat.not_lt.1 hlt)
      subst hie
      rw [List.take_take, Nat.min_self] at t3
      repeat' (first | refine spD (fun _ => ?_) (fun _ => ?_) | refine spF (fun _ => ?_) (fun _ => ?_) | (apply gT; (exact rfl)) | (apply off; (exact rfl); (exact rfl)) | (apply condT; (exact rfl)) | (apply condF; (exact rfl)) | ((first | (apply stp0; (exact rfl); (exact rfl)) | (apply stpN0; (exact rfl)) | apply gT | apply condT | ((first | apply bodyQ_d0 | apply bodyQ_d1 | apply bodyQ_d2 | apply bodyQ_d3 | apply bodyQ_d4); (exact .inr rfl); (rw [Try.results37]))); (first | (focus (simp only [go_sem, ↓reduceIte, simprocAttr, Int.lt_irrefl, t0, t4, t3, hb] <;> rfl)) | exact rfl); (first | (fail_if_success (show okD _ _ _ _ _ _ _ _ _)) | (first | exact okT | exact okN | exact okE rfl)); (first | (fail_if_success (show Bel _ _)) | (focus first | exact .val _ | (simp [oneOf, Bel_iff_tup, Bel_iff_agg, Bel_iff_rsl, Bel_iff_fn, Bel_iff_rptr, Bel_val]; done)))) | refine thenQ_n ?_ | refine thenQ_r ?_ | refine thenQ_e ?_ | refine blockQ_n ?_ | refine blockQ_r ?_ | refine blockQ_e ?_ | (apply blockQ_o; (exact rfl)) | refine Awp.seq ?_ | refine Awp.skip ?_ | refine Awp.block ?_ | refine reg (fun s => false) ?_ | (apply drwE mixed (fun s => false); (kernel_rfl)) | refine fin ?_ | refine Awp.ret ?_ | refine Awp.exit ?_ | ((first | (apply off; (exact rfl)) | apply condF); (first | (focus (simp only [go_sem, ↓reduceIte, simprocAttr, Int.lt_irrefl, t0, t4, t3, hb] <;> rfl)) | exact rfl)))
      all_goals first | contradiction | (exfalso; omega) | rfl | skip

end Go.Proofs.Ytlhchnnfgppneaa.Ab
