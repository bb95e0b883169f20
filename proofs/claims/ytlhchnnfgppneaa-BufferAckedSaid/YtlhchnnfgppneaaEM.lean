/- Count; the acknowledgement is a normal set. -/
import Derived.Test.YtlhchnnfgppneaaEL
namespace Go.Proofs.Ytlhchnnfgppneaa.Ab
open Go Go.RowKit Go.Proofs
set_option linter.unusedSimpArgs false
set_option linter.unusedVariables false
attribute [local irreducible] Awp wpO thenQ blockQ bodyQ ACalls stepA

theorem ack_set {R : List Item} (hs : srtR R) (hok : ∀ r ∈ R, r.ok) (hl : R.length ≤ 256) : setC (ackL R) = 0 ∧ ∀ p ∈ ackL R, 0 ≤ p.1 ∧ p.1 ≤ p.2 ∧ p.2 ≤ 1073741824 := by
  obtain ⟨h1, h2⟩ := ackT_gap hs hok R.length
  have hlen := ackT_len R R.length
  have hin : ∀ p ∈ ackL R, 0 ≤ p.1 ∧ p.1 ≤ p.2 ∧ p.2 ≤ 1073741824 := fun p hp => by
    obtain ⟨a, b, j, r, _, hr, e⟩ := h2 p hp
    have := hok r (List.mem_of_getElem? hr)
    simp only [Item.ok] at this
    omega
  refine ⟨?_, hin⟩
  unfold setC
  have hn : ¬ ((ackL R).length : Int) > 256 := by show ¬ ((ackT R R.length).length : Int) > 256; omega
  rw [if_neg hn, if_pos]
  refine setB_of _ none (fun p hp => ?_) h1 (fun a e => by cases e) (fun p _ => rfl) (fun a p h _ => ?_) (fun a e => by cases e)
  · have := hin p hp
    simp [vldB, wthB]; omega
  · simp [gapB]; omega

theorem cntS_succ {s : List (Int × Int)} {i : Nat} {p : Int × Int} (h : s[i]? = some p) : cntS (s.take (i + 1)) = cntS (s.take i) + (p.2 - p.1 + 1) := by
  rw [List.take_add_one, h, cntS_app]
  simp [cntS]
theorem cntS_in {s : List (Int × Int)} (hs : ∀ p ∈ s, 0 ≤ p.1 ∧ p.1 ≤ p.2 ∧ p.2 ≤ 1073741824) : 0 ≤ cntS s ∧ cntS s ≤ 1073741825 * s.length := by
  induction s with
  | nil => simp [cntS]
  | cons p l ih =>
    have h1 := ih fun q hq => hs q (by simp [hq])
    have h2 := hs p (by simp)
    have e : cntS (p :: l) = (p.2 - p.1 + 1) + cntS l := by simp [cntS]
    have e2 : (1073741825 : Int) * ((p :: l).length : Nat) = 1073741825 * l.length + 1073741825 := by rw [List.length_cons, Int.natCast_succ, Int.mul_add, Int.mul_one]
    omega

set_option maxRecDepth 8000 in
set_option maxHeartbeats 4000000 in
theorem count_ok (H : Hp) (s : List (Int × Int)) (ex : Bool) (hc : setC s = 0) (hs : ∀ p ∈ s, 0 ≤ p.1 ∧ p.1 ≤ p.2 ∧ p.2 ≤ 1073741824) (hm : s.length ≤ 300) : ACalls Try.prog 48 [.rsl (sps s) ex] H fun v1 H1 => v1 = .tup [iv (cntS s), iv 0] ∧ Grow H H1 := by
  have hck := bcheckSet_ok H s ex
  rw [hc] at hck
  have hvl := sps_len s
  have hlm : s.length ≤ maxLen := by simp only [maxLen]; omega
  refine ACalls.of_body Try.func48 rfl (by kernel_rfl) (by rw [Try.ntmps48]; simp) ?_; rw [Try.ntmps48]
  repeat' (first | refine spD (fun _ => ?_) (fun _ => ?_) | refine spF (fun _ => ?_) (fun _ => ?_) | (apply gT; (exact rfl)) | (apply off; (exact rfl); (exact rfl)) | (apply condT; (exact rfl)) | (apply condF; (exact rfl)) | ((first | (apply stp0; (exact rfl); (exact rfl)) | (apply stpN0; (exact rfl)) | apply gT | apply condT | ((first | apply bodyQ_d0 | apply bodyQ_d1 | apply bodyQ_d2 | apply bodyQ_d3 | apply bodyQ_d4); (exact .inr rfl); (rw [Try.results48]))); (first | (focus (simp only [go_sem, ↓reduceIte, simprocAttr, hvl] <;> rfl)) | exact rfl); (first | (fail_if_success (show okD _ _ _ _ _ _ _ _ _)) | (first | exact okT | exact okN | exact okE rfl)); (first | (fail_if_success (show Bel _ _)) | (focus first | exact .val _ | (simp [oneOf, Bel_iff_tup, Bel_iff_agg, Bel_iff_rsl, Bel_iff_fn, Bel_iff_rptr, Bel_val]; done)))) | (apply calTo0; (exact rfl); (iterate 2 (simp only [go_sem, ↓reduceIte, simprocAttr, hvl]; rfl)); (first | exact hck); (first | exact okT | exact okN | exact okE rfl)) | refine thenQ_n ?_ | refine thenQ_r ?_ | refine thenQ_e ?_ | refine blockQ_n ?_ | refine blockQ_r ?_ | refine blockQ_e ?_ | (apply blockQ_o; (exact rfl)) | refine Awp.seq ?_ | refine Awp.skip ?_ | refine Awp.block ?_ | refine reg (fun s => s == 6) ?_ | (apply drwE mixed (fun s => s == 6); (kernel_rfl)) | refine fin ?_ | refine Awp.ret ?_ | refine Awp.exit ?_ | ((first | (apply off; (exact rfl)) | apply condF); (first | (focus (simp only [go_sem, ↓reduceIte, simprocAttr, hvl] <;> rfl)) | exact rfl)))
  all_goals first | contradiction | (exfalso; omega) | skip
  refine Awp.loop (ι := Nat) (fun i T' K => i ≤ s.length ∧ T' 14 = iv i ∧ T' 13 = iv s.length ∧ T' 12 = .rsl (sps s) ex ∧ T' 2 = iv (cntS (s.take i)) ∧ Grow H K) (fun i => s.length - i) 0 ?_ ?_
  · exact ⟨Nat.zero_le _, by (first | (focus (simp only [go_sem, ↓reduceIte, simprocAttr]; first | done | rfl)) | rfl), by (first | (focus (simp only [go_sem, ↓reduceIte, simprocAttr, hvl]; first | done | rfl)) | rfl), by (first | (focus (simp only [go_sem, ↓reduceIte, simprocAttr]; first | done | rfl)) | rfl), by (first | (focus (simp only [go_sem, ↓reduceIte, simprocAttr]; first | done | rfl)) | rfl), Grow.refl _⟩
  rintro i T K ⟨hi, t14, t13, t12, t2, hG⟩
  by_cases hlt : i < s.length
  · obtain ⟨p, hp⟩ := nth hlt
    have hpc := sps_at hp
    have hpi := hs p (List.mem_of_getElem? hp)
    have hsu := wsucc hlt hlm
    have hsc := cntS_succ hp
    have hb := cntS_in (s := s.take i) (fun q hq => hs q (List.mem_of_mem_take hq))
    have hbl : (s.take i).length ≤ 300 := by rw [List.length_take]; omega
    have w1 : IntKind.i64.wrap (p.2 - p.1) = p.2 - p.1 := w64 (by omega) (by omega)
    have w2 : IntKind.i64.wrap (p.2 - p.1 + 1) = p.2 - p.1 + 1 := w64 (by omega) (by omega)
    have w3 : IntKind.i64.wrap (cntS (s.take i) + (p.2 - p.1 + 1)) = cntS (s.take i) + (p.2 - p.1 + 1) := w64 (by omega) (by omega)
    have hx0 := get_new K (.cells [[iv p.1, iv p.2]] 70)
    repeat' ((fail_if_success (apply stopR (id := 7))); (fail_if_success (apply stopS (id := 7))); first | refine spD (fun _ => ?_) (fun _ => ?_) | refine spF (fun _ => ?_) (fun _ => ?_) | (apply gT; (exact rfl)) | (apply off; (exact rfl); (exact rfl)) | (apply condT; (exact rfl)) | (apply condF; (exact rfl)) | ((first | (apply stp0; (exact rfl); (exact rfl)) | (apply stpN0; (exact rfl)) | apply gT | apply condT | ((first | apply bodyQ_d0 | apply bodyQ_d1 | apply bodyQ_d2 | apply bodyQ_d3 | apply bodyQ_d4); (exact .inr rfl); (rw [Try.results48]))); (first | (focus (simp only [go_sem, ↓reduceIte, simprocAttr, Int.ofNat_lt.2 hlt, t14, t13, t12, t2, hvl, hpc] <;> rfl)) | exact rfl); (first | (fail_if_success (show okD _ _ _ _ _ _ _ _ _)) | (first | exact okT | exact okN | exact okE rfl)); (first | (fail_if_success (show Bel _ _)) | (focus first | exact .val _ | (simp [oneOf, Bel_iff_tup, Bel_iff_agg, Bel_iff_rsl, Bel_iff_fn, Bel_iff_rptr, Bel_val]; done)))) | refine thenQ_n ?_ | refine thenQ_r ?_ | refine thenQ_e ?_ | refine blockQ_n ?_ | refine blockQ_r ?_ | refine blockQ_e ?_ | (apply blockQ_o; (exact rfl)) | refine Awp.seq ?_ | refine Awp.skip ?_ | refine Awp.block ?_ | refine reg (fun s => s == 6) ?_ | (apply drwE mixed (fun s => s == 6); (kernel_rfl)) | refine fin ?_ | refine Awp.ret ?_ | refine Awp.exit ?_ | ((first | (apply off; (exact rfl)) | apply condF); (first | (focus (simp only [go_sem, ↓reduceIte, simprocAttr, Int.ofNat_lt.2 hlt, t14, t13, t12, t2, hvl, hpc] <;> rfl)) | exact rfl)))
    all_goals first | contradiction | (exfalso; omega) | skip
    refine Awp.withT (fun T' => T' 14 = iv i ∧ T' 13 = iv s.length ∧ T' 12 = .rsl (sps s) ex ∧ T' 2 = iv (cntS (s.take i)) ∧ T' 6 = .mptr K.length 0 0) ⟨by (first | (focus (simp only [go_sem, ↓reduceIte, simprocAttr, t14]; first | done | rfl)) | rfl), by (first | (focus (simp only [go_sem, ↓reduceIte, simprocAttr, t13]; first | done | rfl)) | rfl), by (first | (focus (simp only [go_sem, ↓reduceIte, simprocAttr, t12]; first | done | rfl)) | rfl), by (first | (focus (simp only [go_sem, ↓reduceIte, simprocAttr, t2]; first | done | rfl)) | rfl), by (first | (focus (simp only [go_sem, ↓reduceIte, simprocAttr]; first | done | rfl)) | rfl)⟩ ?_
    clear t14 t13 t12 t2 T
    rintro T ⟨t14, t13, t12, t2, t6⟩
    repeat' (first | refine spD (fun _ => ?_) (fun _ => ?_) | refine spF (fun _ => ?_) (fun _ => ?_) | (apply gT; (exact rfl)) | (apply off; (exact rfl); (exact rfl)) | (apply condT; (exact rfl)) | (apply condF; (exact rfl)) | ((first | (apply stp0; (exact rfl); (exact rfl)) | (apply stpN0; (exact rfl)) | apply gT | apply condT | ((first | apply bodyQ_d0 | apply bodyQ_d1 | apply bodyQ_d2 | apply bodyQ_d3 | apply bodyQ_d4); (exact .inr rfl); (rw [Try.results48]))); (first | (focus (simp only [go_sem, ↓reduceIte, simprocAttr, t14, t2, t6, hx0, w1, w2, w3, hsu] <;> rfl)) | exact rfl); (first | (fail_if_success (show okD _ _ _ _ _ _ _ _ _)) | (first | exact okT | exact okN | exact okE rfl)); (first | (fail_if_success (show Bel _ _)) | (focus first | exact .val _ | (simp [oneOf, Bel_iff_tup, Bel_iff_agg, Bel_iff_rsl, Bel_iff_fn, Bel_iff_rptr, Bel_val]; done)))) | refine thenQ_n ?_ | refine thenQ_r ?_ | refine thenQ_e ?_ | refine blockQ_n ?_ | refine blockQ_r ?_ | refine blockQ_e ?_ | (apply blockQ_o; (exact rfl)) | refine Awp.seq ?_ | refine Awp.skip ?_ | refine Awp.block ?_ | refine reg (fun s => s == 6) ?_ | (apply drwE mixed (fun s => s == 6); (kernel_rfl)) | refine fin ?_ | refine Awp.ret ?_ | refine Awp.exit ?_ | ((first | (apply off; (exact rfl)) | apply condF); (first | (focus (simp only [go_sem, ↓reduceIte, simprocAttr, t14, t2, t6, hx0, w1, w2, w3, hsu] <;> rfl)) | exact rfl)))
    all_goals first | contradiction | (exfalso; omega) | skip
    refine ⟨i + 1, ⟨hlt, ?_, ?_, ?_, ?_, hG.app _⟩, Nat.sub_lt_sub_left hlt (Nat.lt_succ_self i)⟩
    · (first | (focus (simp only [go_sem, ↓reduceIte, simprocAttr, hsu]; first | done | rfl)) | rfl)
    · (first | (focus (simp only [go_sem, ↓reduceIte, simprocAttr, t13]; first | done | rfl)) | rfl)
    · (first | (focus (simp only [go_sem, ↓reduceIte, simprocAttr, t12]; first | done | rfl)) | rfl)
    · rw [hsc]; (first | (focus (simp only [go_sem, ↓reduceIte, simprocAttr, w3]; first | done | rfl)) | rfl)
  · have hie : i = s.length := Nat.le_antisymm hi (Nat.not_lt.1 hlt)
    subst hie
    rw [List.take_length] at t2
    repeat' (first | refine spD (fun _ => ?_) (fun _ => ?_) | refine spF (fun _ => ?_) (fun _ => ?_) | (apply gT; (exact rfl)) | (apply off; (exact rfl); (exact rfl)) | (apply condT; (exact rfl)) | (apply condF; (exact rfl)) | ((first | (apply stp0; (exact rfl); (exact rfl)) | (apply stpN0; (exact rfl)) | apply gT | apply condT); (first | (focus (simp only [go_sem, ↓reduceIte, simprocAttr, Int.lt_irrefl, t14, t13, t2] <;> rfl)) | exact rfl); (first | (fail_if_success (show okD _ _ _ _ _ _ _ _ _)) | (first | exact okT | exact okN | exact okE rfl))) | refine thenQ_n ?_ | refine thenQ_r ?_ | refine thenQ_e ?_ | refine blockQ_n ?_ | refine blockQ_r ?_ | refine blockQ_e ?_ | (apply blockQ_o; (exact rfl)) | refine Awp.seq ?_ | refine Awp.skip ?_ | refine Awp.block ?_ | refine reg (fun s => s == 6) ?_ | (apply drwE mixed (fun s => s == 6); (kernel_rfl)) | refine fin ?_ | refine Awp.ret ?_ | refine Awp.exit ?_ | ((first | (apply off; (exact rfl)) | apply condF); (first | (focus (simp only [go_sem, ↓reduceIte, simprocAttr, Int.lt_irrefl, t14, t13, t2] <;> rfl)) | exact rfl)))
    all_goals first | contradiction | (exfalso; omega) | skip
    exact bodyQ_mk (vs := [iv (cntS s), iv 0]) (.inr rfl) (by rw [Try.results48]; simp only [go_sem, ↓reduceIte, simprocAttr, t2]) (Vs.refl _ _ _) ⟨rfl, hG⟩

end Go.Proofs.Ytlhchnnfgppneaa.Ab
