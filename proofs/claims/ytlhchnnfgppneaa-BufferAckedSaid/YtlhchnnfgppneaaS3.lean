/- slices.DeleteFunc over numbers, with a function that turns the heap. -/
import Derived.Test.YtlhchnnfgppneaaS2
namespace Go.Proofs.Ytlhchnnfgppneaa.Ab
open Go Go.RowKit Go.Proofs
set_option linter.unusedSimpArgs false
set_option linter.unusedVariables false
attribute [local irreducible] Awp wpO thenQ blockQ bodyQ ACalls stepA

def keepI (p : Int → Bool) (l : List Int) : List Int := l.filter fun x => !p x
theorem keepI_succ {p : Int → Bool} {l : List Int} {i : Nat} {x : Int} (hi : l[i]? = some x) : keepI p (l.take (i + 1)) = if p x then keepI p (l.take i) else keepI p (l.take i) ++ [x] := by
  unfold keepI
  rw [List.take_add_one, hi]
  cases h : p x <;> simp [h]
theorem keepI_all {p : Int → Bool} {l : List Int} {n : Nat} (h : ∀ j y, j < n → l[j]? = some y → p y = false) : keepI p (l.take n) = l.take n := by
  unfold keepI
  rw [List.filter_eq_self]
  intro x hx
  obtain ⟨j, hj⟩ := List.getElem?_of_mem hx
  rw [List.getElem?_take] at hj
  split at hj
  · rename_i hjn
    rw [h j x hjn hj]; rfl
  · cases hj
theorem setI_take {w : List Int} {k : Nat} {x : Int} (hk : k < w.length) : (w.set k x).take (k + 1) = w.take k ++ [x] := by
  rw [List.take_add_one, List.getElem?_set_self hk, List.take_set_of_le (Nat.le_refl _)]; rfl

set_option maxRecDepth 8000 in
set_option maxHeartbeats 4000000 in
theorem deleteI_ok {H : Hp} {b n : Nat} {u : List Int} {f : FuncId} {cap : List AV} {p : Int → Bool} {I : Nat → Hp → Prop} (hb : H[b]? = some (.cells (ints u) 2)) (hn : n ≤ u.length) (hm : n ≤ maxLen)
    (hf : AsksI f cap b (u.take n) p I) (hs : ∀ j K c, I j K → I j (K.set b c)) (h0 : I 0 H) : ACalls Try.prog 66 [.msl b 0 n, .fn (.func f) cap] H fun v1 K1 =>
      ∃ u', v1 = .msl b 0 (keepI p (u.take n)).length ∧ K1[b]? = some (.cells (ints u') 2) ∧ u'.length = u.length ∧ u'.take (keepI p (u.take n)).length = keepI p (u.take n) ∧ I n K1 := by
  refine ACalls.of_body Try.func66 rfl (by kernel_rfl) (by rw [Try.ntmps66]; simp) ?_; rw [Try.ntmps66]
  repeat' (first | refine spD (fun _ => ?_) (fun _ => ?_) | refine spF (fun _ => ?_) (fun _ => ?_) | (apply gT; (exact rfl)) | (apply off; (exact rfl); (exact rfl)) | (apply condT; (exact rfl)) | (apply condF; (exact rfl)) | ((first | (apply stp0; (exact rfl); (exact rfl)) | (apply stpN0; (exact rfl)) | apply gT | apply condT | ((first | apply bodyQ_d0 | apply bodyQ_d1 | apply bodyQ_d2 | apply bodyQ_d3 | apply bodyQ_d4); (exact .inr rfl); (rw [Try.results66]))); (first | (focus (simp only [go_sem, ↓reduceIte, simprocAttr] <;> rfl)) | exact rfl); (first | (fail_if_success (show okD _ _ _ _ _ _ _ _ _)) | (first | exact okT | exact okN | exact okE rfl)); (first | (fail_if_success (show Bel _ _)) | (focus first | exact .val _ | (simp [oneOf, Bel_iff_tup, Bel_iff_agg, Bel_iff_rsl, Bel_iff_fn, Bel_iff_rptr, Bel_val]; done)))) | refine thenQ_n ?_ | refine thenQ_r ?_ | refine thenQ_e ?_ | refine blockQ_n ?_ | refine blockQ_r ?_ | refine blockQ_e ?_ | (apply blockQ_o; (exact rfl)) | refine Awp.seq ?_ | refine Awp.skip ?_ | refine Awp.block ?_ | refine reg (fun s => false) ?_ | (apply drwE mixed (fun s => false); (kernel_rfl)) | refine fin ?_ | refine Awp.ret ?_ | refine Awp.exit ?_ | ((first | (apply off; (exact rfl)) | apply condF); (first | (focus (simp only [go_sem, ↓reduceIte, simprocAttr] <;> rfl)) | exact rfl)))
  refine cal rfl rfl rfl ?_ (show ACallV Try.prog (.fn (.func 98) []) [.msl b 0 n, .fn (.func f) cap] H _ from indexI_ok hb hn hm hf h0) ?_
  · (first | (focus (simp only [go_sem, ↓reduceIte, simprocAttr]; first | done | rfl)) | rfl)
  rintro v1 K1 (⟨i, x, hi, hx, hp, hno, rfl, hI, hbK⟩ | ⟨rfl, hno, hI, hbK⟩)
  · have hne : ¬ ((i : Int) = -1) := by omega
    have hsi := wsucc hi hm
    repeat' (first | refine spD (fun _ => ?_) (fun _ => ?_) | refine spF (fun _ => ?_) (fun _ => ?_) | (apply gT; (exact rfl)) | (apply off; (exact rfl); (exact rfl)) | (apply condT; (exact rfl)) | (apply condF; (exact rfl)) | ((first | (apply stp0; (exact rfl); (exact rfl)) | (apply stpN0; (exact rfl)) | apply gT | apply condT | ((first | apply bodyQ_d0 | apply bodyQ_d1 | apply bodyQ_d2 | apply bodyQ_d3 | apply bodyQ_d4); (exact .inr rfl); (rw [Try.results66]))); (first | (focus (simp only [go_sem, ↓reduceIte, simprocAttr, hne, hsi] <;> rfl)) | exact rfl); (first | (fail_if_success (show okD _ _ _ _ _ _ _ _ _)) | (first | exact okT | exact okN | exact okE rfl)); (first | (fail_if_success (show Bel _ _)) | (focus first | exact .val _ | (simp [oneOf, Bel_iff_tup, Bel_iff_agg, Bel_iff_rsl, Bel_iff_fn, Bel_iff_rptr, Bel_val]; done)))) | refine thenQ_n ?_ | refine thenQ_r ?_ | refine thenQ_e ?_ | refine blockQ_n ?_ | refine blockQ_r ?_ | refine blockQ_e ?_ | (apply blockQ_o; (exact rfl)) | refine Awp.seq ?_ | refine Awp.skip ?_ | refine Awp.block ?_ | refine reg (fun s => false) ?_ | (apply drwE mixed (fun s => false); (kernel_rfl)) | refine fin ?_ | refine Awp.ret ?_ | refine Awp.exit ?_ | ((first | (apply off; (exact rfl)) | apply condF); (first | (focus (simp only [go_sem, ↓reduceIte, simprocAttr, hne, hsi] <;> rfl)) | exact rfl)))
    all_goals first | contradiction | (exfalso; omega) | skip
    refine Awp.loop (ι := Nat) (fun j T' K => j ≤ n ∧ T' 6 = iv j ∧ T' 0 = .msl b 0 n ∧ T' 1 = .fn (.func f) cap ∧ I j K ∧ ∃ k w, T' 5 = iv (k : Nat) ∧ k = (keepI p (u.take j)).length ∧ k < j ∧ K[b]? = some (.cells (ints w) 2) ∧ w.length = u.length ∧ w.take k = keepI p (u.take j) ∧ ∀ l, j ≤ l → w[l]? = u[l]?) (fun j => n - j) (i + 1) ?_ ?_
    · refine ⟨hi, ?_, ?_, ?_, hI, i, u, ?_, ?_, Nat.lt_succ_self i, by rw [hbK]; exact hb, rfl, ?_, fun _ _ => rfl⟩
      · (first | (focus (simp only [go_sem, ↓reduceIte, simprocAttr, hsi]; first | done | rfl)) | rfl)
      · (first | (focus (simp only [go_sem, ↓reduceIte, simprocAttr]; first | done | rfl)) | rfl)
      · (first | (focus (simp only [go_sem, ↓reduceIte, simprocAttr]; first | done | rfl)) | rfl)
      · (first | (focus (simp only [go_sem, ↓reduceIte, simprocAttr]; first | done | rfl)) | rfl)
      · rw [keepI_succ hx, if_pos hp, keepI_all hno, List.length_take]; omega
      · rw [keepI_succ hx, if_pos hp, keepI_all hno]
    rintro j T K ⟨hj, t6, t0, t1, hI, k, w, t5, hk, hkj, hbw, hwl, hwt, hwd⟩
    have hwl2 := ints_len w
    by_cases hlt : j < n
    · obtain ⟨y, hy⟩ := nth (l := u) (i := j) (Nat.lt_of_lt_of_le hlt hn)
      have hyt : (u.take n)[j]? = some y := by rw [List.getElem?_take, if_pos hlt]; exact hy
      have hwj : (ints w)[j]? = some [iv y] := nthMap (fun x => [iv x]) (by rw [hwd j (Nat.le_refl _)]; exact hy)
      have hsu := wsucc hlt hm
      have hksn := wsucc (Nat.lt_trans hkj hlt) hm
      repeat' (first | refine spD (fun _ => ?_) (fun _ => ?_) | refine spF (fun _ => ?_) (fun _ => ?_) | (apply gT; (exact rfl)) | (apply off; (exact rfl); (exact rfl)) | (apply condT; (exact rfl)) | (apply condF; (exact rfl)) | ((first | (apply stp0; (exact rfl); (exact rfl)) | (apply stpN0; (exact rfl)) | apply gT | apply condT | ((first | apply bodyQ_d0 | apply bodyQ_d1 | apply bodyQ_d2 | apply bodyQ_d3 | apply bodyQ_d4); (exact .inr rfl); (rw [Try.results66]))); (first | (focus (simp only [go_sem, ↓reduceIte, simprocAttr, Int.ofNat_lt.2 hlt, t6, t0, t1, hbw, hwl2, hwj, hlt, Nat.zero_add] <;> rfl)) | exact rfl); (first | (fail_if_success (show okD _ _ _ _ _ _ _ _ _)) | (first | exact okT | exact okN | exact okE rfl)); (first | (fail_if_success (show Bel _ _)) | (focus first | exact .val _ | (simp [oneOf, Bel_iff_tup, Bel_iff_agg, Bel_iff_rsl, Bel_iff_fn, Bel_iff_rptr, Bel_val]; done)))) | refine thenQ_n ?_ | refine thenQ_r ?_ | refine thenQ_e ?_ | refine blockQ_n ?_ | refine blockQ_r ?_ | refine blockQ_e ?_ | (apply blockQ_o; (exact rfl)) | refine Awp.seq ?_ | refine Awp.skip ?_ | refine Awp.block ?_ | refine reg (fun s => false) ?_ | (apply drwE mixed (fun s => false); (kernel_rfl)) | refine fin ?_ | refine Awp.ret ?_ | refine Awp.exit ?_ | ((first | (apply off; (exact rfl)) | apply condF); (first | (focus (simp only [go_sem, ↓reduceIte, simprocAttr, Int.ofNat_lt.2 hlt, t6, t0, t1, hbw, hwl2, hwj, hlt, Nat.zero_add] <;> rfl)) | exact rfl)))
      all_goals first | contradiction | (exfalso; omega) | skip
      refine cal rfl rfl rfl ?_ (show ACallV Try.prog (.fn (.func f) cap) [iv y] K _ from hf j y K hyt hI) ?_
      · (first | (focus (simp only [go_sem, ↓reduceIte, simprocAttr, t1]; first | done | rfl)) | rfl)
      rintro v1 J ⟨rfl, hb1, hI1⟩
      have hbJ : J[b]? = some (.cells (ints w) 2) := by rw [hb1]; exact hbw
      cases hpy : p y with
      | true =>
        repeat' (first | refine spD (fun _ => ?_) (fun _ => ?_) | refine spF (fun _ => ?_) (fun _ => ?_) | (apply gT; (exact rfl)) | (apply off; (exact rfl); (exact rfl)) | (apply condT; (exact rfl)) | (apply condF; (exact rfl)) | ((first | (apply stp0; (exact rfl); (exact rfl)) | (apply stpN0; (exact rfl)) | apply gT | apply condT | ((first | apply bodyQ_d0 | apply bodyQ_d1 | apply bodyQ_d2 | apply bodyQ_d3 | apply bodyQ_d4); (exact .inr rfl); (rw [Try.results66]))); (first | (focus (simp only [go_sem, ↓reduceIte, simprocAttr, hsu, t6] <;> rfl)) | exact rfl); (first | (fail_if_success (show okD _ _ _ _ _ _ _ _ _)) | (first | exact okT | exact okN | exact okE rfl)); (first | (fail_if_success (show Bel _ _)) | (focus first | exact .val _ | (simp [oneOf, Bel_iff_tup, Bel_iff_agg, Bel_iff_rsl, Bel_iff_fn, Bel_iff_rptr, Bel_val]; done)))) | refine thenQ_n ?_ | refine thenQ_r ?_ | refine thenQ_e ?_ | refine blockQ_n ?_ | refine blockQ_r ?_ | refine blockQ_e ?_ | (apply blockQ_o; (exact rfl)) | refine Awp.seq ?_ | refine Awp.skip ?_ | refine Awp.block ?_ | refine reg (fun s => false) ?_ | (apply drwE mixed (fun s => false); (kernel_rfl)) | refine fin ?_ | refine Awp.ret ?_ | refine Awp.exit ?_ | ((first | (apply off; (exact rfl)) | apply condF); (first | (focus (simp only [go_sem, ↓reduceIte, simprocAttr, hsu, t6] <;> rfl)) | exact rfl)))
        all_goals first | contradiction | (exfalso; omega) | skip
        refine ⟨j + 1, ⟨hlt, ?_, ?_, ?_, hI1, k, w, ?_, ?_, Nat.lt_succ_of_lt hkj, hbJ, hwl, ?_, fun l hl => hwd l (Nat.le_of_succ_le hl)⟩, Nat.sub_lt_sub_left hlt (Nat.lt_succ_self j)⟩
        · (first | (focus (simp only [go_sem, ↓reduceIte, simprocAttr, hsu]; first | done | rfl)) | rfl)
        · (first | (focus (simp only [go_sem, ↓reduceIte, simprocAttr, t0]; first | done | rfl)) | rfl)
        · (first | (focus (simp only [go_sem, ↓reduceIte, simprocAttr, t1]; first | done | rfl)) | rfl)
        · (first | (focus (simp only [go_sem, ↓reduceIte, simprocAttr, t5]; first | done | rfl)) | rfl)
        · rw [keepI_succ hy, if_pos hpy]; exact hk
        · rw [keepI_succ hy, if_pos hpy]; exact hwt
      | false =>
        have hkw : k < w.length := by omega
        have hkn : k < n := Nat.lt_trans hkj hlt
        obtain ⟨z, hz⟩ := nth (l := w) (i := k) hkw
        have hwk : (ints w)[k]? = some [iv z] := nthMap (fun x => [iv x]) hz
        have hse : (ints w).set k [iv y] = ints (w.set k y) := by simp [ints, List.map_set]
        repeat' (first | refine spD (fun _ => ?_) (fun _ => ?_) | refine spF (fun _ => ?_) (fun _ => ?_) | (apply gT; (exact rfl)) | (apply off; (exact rfl); (exact rfl)) | (apply condT; (exact rfl)) | (apply condF; (exact rfl)) | ((first | (apply stp0; (exact rfl); (exact rfl)) | (apply stpN0; (exact rfl)) | apply gT | apply condT | ((first | apply bodyQ_d0 | apply bodyQ_d1 | apply bodyQ_d2 | apply bodyQ_d3 | apply bodyQ_d4); (exact .inr rfl); (rw [Try.results66]))); (first | (focus (simp only [go_sem, ↓reduceIte, simprocAttr, hsu, t6, t0, t5, hbJ, hwl2, hwk, hkn, hksn, hse, Nat.zero_add] <;> rfl)) | exact rfl); (first | (fail_if_success (show okD _ _ _ _ _ _ _ _ _)) | (first | exact okT | exact okN | exact okE rfl)); (first | (fail_if_success (show Bel _ _)) | (focus first | exact .val _ | (simp [oneOf, Bel_iff_tup, Bel_iff_agg, Bel_iff_rsl, Bel_iff_fn, Bel_iff_rptr, Bel_val]; done)))) | refine thenQ_n ?_ | refine thenQ_r ?_ | refine thenQ_e ?_ | refine blockQ_n ?_ | refine blockQ_r ?_ | refine blockQ_e ?_ | (apply blockQ_o; (exact rfl)) | refine Awp.seq ?_ | refine Awp.skip ?_ | refine Awp.block ?_ | refine reg (fun s => false) ?_ | (apply drwE mixed (fun s => false); (kernel_rfl)) | refine fin ?_ | refine Awp.ret ?_ | refine Awp.exit ?_ | ((first | (apply off; (exact rfl)) | apply condF); (first | (focus (simp only [go_sem, ↓reduceIte, simprocAttr, hsu, t6, t0, t5, hbJ, hwl2, hwk, hkn, hksn, hse, Nat.zero_add] <;> rfl)) | exact rfl)))
        all_goals first | contradiction | (exfalso; omega) | skip
        refine ⟨j + 1, ⟨hlt, ?_, ?_, ?_, hs _ _ _ hI1, k + 1, w.set k y, ?_, ?_, Nat.succ_lt_succ hkj, ?_, ?_, ?_, fun l hl => ?_⟩, Nat.sub_lt_sub_left hlt (Nat.lt_succ_self j)⟩
        · (first | (focus (simp only [go_sem, ↓reduceIte, simprocAttr, hsu]; first | done | rfl)) | rfl)
        · (first | (focus (simp only [go_sem, ↓reduceIte, simprocAttr, t0]; first | done | rfl)) | rfl)
        · (first | (focus (simp only [go_sem, ↓reduceIte, simprocAttr, t1]; first | done | rfl)) | rfl)
        · (first | (focus (simp only [go_sem, ↓reduceIte, simprocAttr, hksn]; first | done | rfl)) | rfl)
        · rw [keepI_succ hy, if_neg (by rw [hpy]; simp), List.length_append, ← hk]; rfl
        · exact (heldS hbJ).1 _
        · rw [List.length_set]; exact hwl
        · rw [keepI_succ hy, if_neg (by rw [hpy]; simp), setI_take hkw, hwt]
        · rw [List.getElem?_set_ne (by omega)]; exact hwd l (Nat.le_of_succ_le hl)
    · have hje : j = n := Nat.le_antisymm hj (Nat.not_lt.1 hlt)
      subst hje
      repeat' ((fail_if_success (apply stopR (id := 11))); (fail_if_success (apply stopS (id := 11))); first | refine spD (fun _ => ?_) (fun _ => ?_) | refine spF (fun _ => ?_) (fun _ => ?_) | (apply gT; (exact rfl)) | (apply off; (exact rfl); (exact rfl)) | (apply condT; (exact rfl)) | (apply condF; (exact rfl)) | ((first | (apply stp0; (exact rfl); (exact rfl)) | (apply stpN0; (exact rfl)) | apply gT | apply condT | ((first | apply bodyQ_d0 | apply bodyQ_d1 | apply bodyQ_d2 | apply bodyQ_d3 | apply bodyQ_d4); (exact .inr rfl); (rw [Try.results66]))); (first | (focus (simp only [go_sem, ↓reduceIte, simprocAttr, Int.lt_irrefl, t6, t0] <;> rfl)) | exact rfl); (first | (fail_if_success (show okD _ _ _ _ _ _ _ _ _)) | (first | exact okT | exact okN | exact okE rfl)); (first | (fail_if_success (show Bel _ _)) | (focus first | exact .val _ | (simp [oneOf, Bel_iff_tup, Bel_iff_agg, Bel_iff_rsl, Bel_iff_fn, Bel_iff_rptr, Bel_val]; done)))) | refine thenQ_n ?_ | refine thenQ_r ?_ | refine thenQ_e ?_ | refine blockQ_n ?_ | refine blockQ_r ?_ | refine blockQ_e ?_ | (apply blockQ_o; (exact rfl)) | refine Awp.seq ?_ | refine Awp.skip ?_ | refine Awp.block ?_ | refine reg (fun s => false) ?_ | (apply drwE mixed (fun s => false); (kernel_rfl)) | refine fin ?_ | refine Awp.ret ?_ | refine Awp.exit ?_ | ((first | (apply off; (exact rfl)) | apply condF); (first | (focus (simp only [go_sem, ↓reduceIte, simprocAttr, Int.lt_irrefl, t6, t0] <;> rfl)) | exact rfl)))
      all_goals first | contradiction | (exfalso; omega) | skip
      refine Awp.seq (Awp.regionW ⟨rfl, rfl, opMove rfl ⟨rfl, rfl, opMove rfl ⟨rfl, rfl, ?_⟩⟩⟩)
      refine opSliceLo (len := j) (lo := k) rfl (by exact t0) (by exact t5) hbw (by omega) hkj ?_
      refine ⟨rfl, rfl, opClear (lo := k) (m := j - k) rfl (by rfl) hbw (by omega) (by omega) fun v u' hul hut => ?_⟩
      refine thenQ_n ?_
      refine Awp.withT (fun T' => T' 0 = .msl b 0 j ∧ T' 5 = iv (k : Nat)) ⟨by exact t0, by exact t5⟩ ?_
      clear t0 t5 t6 t1
      rintro T2 ⟨t0, t5⟩
      have hbc := (heldS hbw).1 (.cells (ints u') 2)
      have hkn : k ≤ j := Nat.le_of_lt hkj
      repeat' (first | refine spD (fun _ => ?_) (fun _ => ?_) | refine spF (fun _ => ?_) (fun _ => ?_) | (apply gT; (exact rfl)) | (apply off; (exact rfl); (exact rfl)) | (apply condT; (exact rfl)) | (apply condF; (exact rfl)) | ((first | (apply stp0; (exact rfl); (exact rfl)) | (apply stpN0; (exact rfl)) | apply gT | apply condT); (first | (focus (simp only [go_sem, ↓reduceIte, simprocAttr, t0, t5, hkn] <;> rfl)) | exact rfl); (first | (fail_if_success (show okD _ _ _ _ _ _ _ _ _)) | (first | exact okT | exact okN | exact okE rfl))) | refine thenQ_n ?_ | refine thenQ_r ?_ | refine thenQ_e ?_ | refine blockQ_n ?_ | refine blockQ_r ?_ | refine blockQ_e ?_ | (apply blockQ_o; (exact rfl)) | refine Awp.seq ?_ | refine Awp.skip ?_ | refine Awp.block ?_ | refine reg (fun s => false) ?_ | (apply drwE mixed (fun s => false); (kernel_rfl)) | refine fin ?_ | refine Awp.ret ?_ | refine Awp.exit ?_ | ((first | (apply off; (exact rfl)) | apply condF); (first | (focus (simp only [go_sem, ↓reduceIte, simprocAttr, t0, t5, hkn] <;> rfl)) | exact rfl)))
      all_goals first | contradiction | (exfalso; omega) | skip
      refine bodyQ_mk (vs := [.msl b 0 k]) (.inr rfl) (by rw [Try.results66]; simp only [go_sem, ↓reduceIte, simprocAttr]) (Vs.refl _ _ _) ⟨u', by rw [← hk]; rfl, hbc, by rw [hul, hwl], ?_, hs _ _ _ hI⟩
      rw [← hk, hut, hwt]
  · repeat' (first | refine spD (fun _ => ?_) (fun _ => ?_) | refine spF (fun _ => ?_) (fun _ => ?_) | (apply gT; (exact rfl)) | (apply off; (exact rfl); (exact rfl)) | (apply condT; (exact rfl)) | (apply condF; (exact rfl)) | ((first | (apply stp0; (exact rfl); (exact rfl)) | (apply stpN0; (exact rfl)) | apply gT | apply condT); (first | (focus (simp only [go_sem, ↓reduceIte, simprocAttr] <;> rfl)) | exact rfl); (first | (fail_if_success (show okD _ _ _ _ _ _ _ _ _)) | (first | exact okT | exact okN | exact okE rfl))) | refine thenQ_n ?_ | refine thenQ_r ?_ | refine thenQ_e ?_ | refine blockQ_n ?_ | refine blockQ_r ?_ | refine blockQ_e ?_ | (apply blockQ_o; (exact rfl)) | refine Awp.seq ?_ | refine Awp.skip ?_ | refine Awp.block ?_ | refine reg (fun s => false) ?_ | (apply drwE mixed (fun s => false); (kernel_rfl)) | refine fin ?_ | refine Awp.ret ?_ | refine Awp.exit ?_ | ((first | (apply off; (exact rfl)) | apply condF); (first | (focus (simp only [go_sem, ↓reduceIte, simprocAttr] <;> rfl)) | exact rfl)))
    all_goals first | contradiction | (exfalso; omega) | skip
    have e := keepI_all hno
    have e2 : (u.take n).length = n := by rw [List.length_take]; omega
    exact bodyQ_mk (vs := [.msl b 0 n]) (.inr rfl) (by rw [Try.results66]; simp only [go_sem, ↓reduceIte, simprocAttr]) (Vs.refl _ _ _) ⟨u, by rw [e, e2]; rfl, by rw [hbK]; exact hb, rfl, by rw [e, e2], hI⟩

end Go.Proofs.Ytlhchnnfgppneaa.Ab
