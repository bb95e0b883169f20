/- Inboxes: the reference's Cover and Acks. -/
import Derived.Test.YtlhchnnfgppneaaEH
namespace Go.Proofs.Ytlhchnnfgppneaa.Ab
open Go Go.RowKit Go.Proofs
set_option linter.unusedSimpArgs false
set_option linter.unusedVariables false
attribute [local irreducible] Awp wpO thenQ blockQ bodyQ ACalls stepA

theorem pstp_all {id : Int} : ∀ (l acc : List (Int × Int)), (∀ p ∈ l, p.2 + 1 < id) → l.foldl pstp (acc, id, id) = (acc ++ l, id, id)
  | [], acc, _ => by simp
  | p :: l, acc, h => by
    have h1 : pstp (acc, id, id) p = (acc ++ [p], id, id) := by unfold pstp; rw [if_pos (h p (by simp))]
    rw [List.foldl_cons, h1, pstp_all l _ fun q hq => h q (by simp [hq])]
    simp
theorem put_ack {l : List (Int × Int)} {id : Int} (hg : l.Pairwise fun a b => a.2 + 1 < b.1) (hs : ∀ p ∈ l, 0 ≤ p.1 ∧ p.1 ≤ p.2 ∧ p.2 < id) : (stP l id l.length).1 ++ [(stP l id l.length).2] = ackStep l id := by
  rcases List.eq_nil_or_concat l with e | ⟨l0, q, e⟩
  · subst e; rfl
  · rw [List.concat_eq_append] at e
    subst e
    have hq := hs q (by simp)
    have hl0 : ∀ p ∈ l0, p.2 + 1 < id := fun p hp => by
      have := (List.pairwise_append.1 hg).2.2 p hp q (by simp)
      omega
    rw [ackStep_app]
    unfold stP
    rw [List.take_length, List.foldl_append, pstp_all l0 [] hl0]
    simp only [List.nil_append, List.foldl_cons, List.foldl_nil]
    unfold pstp
    by_cases c : q.2 + 1 < id
    · rw [if_pos c, if_neg (by omega)]
    · rw [if_neg c, if_pos (by omega)]
      have e1 : min id q.1 = q.1 := by omega
      have e2 : max id q.2 = id := by omega
      simp only [e1, e2]
theorem ackT_gap {R : List Item} (hs : srtR R) (hok : ∀ r ∈ R, r.ok) : ∀ i, (ackT R i).Pairwise (fun a b => a.2 + 1 < b.1) ∧ ∀ p ∈ ackT R i, 0 ≤ p.1 ∧ p.1 ≤ p.2 ∧ ∃ j r, j < i ∧ R[j]? = some r ∧ r.id = p.2 := by
  intro i
  induction i with
  | zero => simp [ackT]
  | succ i ih =>
    obtain ⟨ih1, ih2⟩ := ih
    cases h : R[i]? with
    | some r =>
      have hr := hok r (List.mem_of_getElem? h)
      simp only [Item.ok] at hr
      have hlt : ∀ p ∈ ackT R i, p.2 < r.id := fun p hp => by
        obtain ⟨_, _, j, x, hj, hx, e⟩ := ih2 p hp
        have g1 := List.getElem?_eq_some_iff.1 hx
        have g2 := List.getElem?_eq_some_iff.1 h
        have := List.pairwise_iff_getElem.1 hs j i g1.1 g2.1 hj
        rw [g1.2, g2.2] at this
        omega
      have hnew : ∃ j x, j < i + 1 ∧ R[j]? = some x ∧ x.id = r.id := ⟨i, r, Nat.lt_succ_self i, h, rfl⟩
      have hup : ∀ p ∈ ackT R i, 0 ≤ p.1 ∧ p.1 ≤ p.2 ∧ ∃ j r, j < i + 1 ∧ R[j]? = some r ∧ r.id = p.2 := fun p hp => by
        obtain ⟨a, b, j, x, hj, hx, e⟩ := ih2 p hp
        exact ⟨a, b, j, x, by omega, hx, e⟩
      rw [ackT_succ h]
      rcases List.eq_nil_or_concat (ackT R i) with e | ⟨l0, q, e⟩
      · rw [e]
        refine ⟨by simp [ackStep], fun p hp => ?_⟩
        simp [ackStep] at hp
        subst hp
        exact ⟨by omega, Int.le_refl _, hnew⟩
      · rw [List.concat_eq_append] at e
        rw [e] at ih1 hlt hup ⊢
        obtain ⟨p1, p2, p3⟩ := List.pairwise_append.1 ih1
        have hq := hlt q (by simp)
        have hq2 := hup q (by simp)
        rw [ackStep_app]
        split
        · refine ⟨List.pairwise_append.2 ⟨p1, by simp, fun a ha b hb => ?_⟩, fun p hp => ?_⟩
          · simp at hb; subst hb
            exact p3 a ha q (by simp)
          · rcases List.mem_append.1 hp with hp | hp
            · exact hup p (by simp [hp])
            · simp at hp; subst hp
              exact ⟨hq2.1, by show q.1 ≤ r.id; omega, hnew⟩
        · rename_i hne
          refine ⟨List.pairwise_append.2 ⟨ih1, by simp, fun a ha b hb => ?_⟩, fun p hp => ?_⟩
          · simp at hb; subst hb
            show a.2 + 1 < r.id
            rcases List.mem_append.1 ha with ha | ha
            · have := p3 a ha q (by simp)
              omega
            · simp at ha; subst ha; omega
          · rcases List.mem_append.1 hp with hp | hp
            · exact hup p hp
            · simp at hp; subst hp
              exact ⟨by show 0 ≤ r.id; omega, Int.le_refl _, hnew⟩
    | none =>
      have hle : R.length ≤ i := List.getElem?_eq_none_iff.1 h
      have e : ackT R (i + 1) = ackT R i := by
        unfold ackT
        rw [List.take_of_length_le (by simp [idsR]; omega), List.take_of_length_le (by simp [idsR]; omega)]
      rw [e]
      exact ⟨ih1, fun p hp => by obtain ⟨a, b, j, x, hj, hx, e⟩ := ih2 p hp; exact ⟨a, b, j, x, by omega, hx, e⟩⟩

/-- spans of one number each -/
def sing (R : List Item) : List (Int × Int) := R.map fun r => (r.id, r.id)
theorem sing_len (R : List Item) : (sing R).length = R.length := by simp [sing]
theorem sing_at {R : List Item} {i : Nat} {r : Item} (h : R[i]? = some r) : (sps (sing R))[i]? = some [iv r.id, iv r.id] := by
  unfold sps sing
  rw [List.getElem?_map, List.getElem?_map, h]; rfl

set_option maxRecDepth 8000 in
set_option maxHeartbeats 4000000 in
theorem coverX (H : Hp) {R : List Item} (hs : srtR R) (hok : ∀ r ∈ R, r.ok) (hl : R.length ≤ 256) (ex : Bool) : CallsTo Try.prog 75 [.rsl (sps (sing R)) ex] H (.tup [.rsl (sps (ackL R)) false, iv 0]) H := by
  have hvl : (sps (sing R)).length = R.length := by rw [sps_len, sing_len]
  have hlm : R.length ≤ maxLen := by simp only [maxLen]; omega
  have hng : ¬ (R.length : Int) > 256 := by omega
  refine ACalls.of_body Try.func75 rfl (by kernel_rfl) (by rw [Try.ntmps75]; simp) ?_; rw [Try.ntmps75]
  repeat' (first | refine spD (fun _ => ?_) (fun _ => ?_) | refine spF (fun _ => ?_) (fun _ => ?_) | (apply gT; (exact rfl)) | (apply off; (exact rfl); (exact rfl)) | (apply condT; (exact rfl)) | (apply condF; (exact rfl)) | ((first | (apply stp0; (exact rfl); (exact rfl)) | (apply stpN0; (exact rfl)) | apply gT | apply condT | ((first | apply bodyQ_d0 | apply bodyQ_d1 | apply bodyQ_d2 | apply bodyQ_d3 | apply bodyQ_d4); (exact .inr rfl); (rw [Try.results75]))); (first | (focus (simp only [go_sem, ↓reduceIte, simprocAttr, hvl, hng] <;> rfl)) | exact rfl); (first | (fail_if_success (show okD _ _ _ _ _ _ _ _ _)) | (first | exact okT | exact okN | exact okE rfl)); (first | (fail_if_success (show Bel _ _)) | (focus first | exact .val _ | (simp [oneOf, Bel_iff_tup, Bel_iff_agg, Bel_iff_rsl, Bel_iff_fn, Bel_iff_rptr, Bel_val]; done)))) | refine thenQ_n ?_ | refine thenQ_r ?_ | refine thenQ_e ?_ | refine blockQ_n ?_ | refine blockQ_r ?_ | refine blockQ_e ?_ | (apply blockQ_o; (exact rfl)) | refine Awp.seq ?_ | refine Awp.skip ?_ | refine Awp.block ?_ | refine reg (fun s => false) ?_ | (apply drwE mixed (fun s => false); (kernel_rfl)) | refine fin ?_ | refine Awp.ret ?_ | refine Awp.exit ?_ | ((first | (apply off; (exact rfl)) | apply condF); (first | (focus (simp only [go_sem, ↓reduceIte, simprocAttr, hvl, hng] <;> rfl)) | exact rfl)))
  all_goals first | contradiction | (exfalso; omega) | skip
  refine Awp.mono (Q := fun e T' K => e = .exit 0 ∧ T' 0 = .rsl (sps (sing R)) ex ∧ T' 4 = nilS ∧ K = H) ?_ ?_
  · refine Awp.loop (ι := Nat) (fun i T' K => i ≤ R.length ∧ T' 5 = iv i ∧ T' 0 = .rsl (sps (sing R)) ex ∧ T' 4 = nilS ∧ K = H) (fun i => R.length - i) 0 ?_ ?_
    · exact ⟨Nat.zero_le _, by (first | (focus (simp only [go_sem, ↓reduceIte, simprocAttr]; first | done | rfl)) | rfl), by (first | (focus (simp only [go_sem, ↓reduceIte, simprocAttr]; first | done | rfl)) | rfl), by (first | (focus (simp only [go_sem, ↓reduceIte, simprocAttr]; first | done | rfl)) | rfl), rfl⟩
    rintro i T K ⟨hi, t5, t0, t4, hK⟩
    rw [hK]
    by_cases hlt : i < R.length
    · obtain ⟨r, hr⟩ := nth hlt
      have hc := sing_at hr
      have hrok := hok r (List.mem_of_getElem? hr)
      simp only [Item.ok] at hrok
      have hva := rvalid_ok H (r.id, r.id)
      have hvb : vldB (r.id, r.id) = true := by simp [vldB, wthB]; omega
      rw [hvb] at hva
      have hsu := wsucc hlt hlm
      repeat' (first | refine spD (fun _ => ?_) (fun _ => ?_) | refine spF (fun _ => ?_) (fun _ => ?_) | (apply gT; (exact rfl)) | (apply off; (exact rfl); (exact rfl)) | (apply condT; (exact rfl)) | (apply condF; (exact rfl)) | ((first | (apply stp0; (exact rfl); (exact rfl)) | (apply stpN0; (exact rfl)) | apply gT | apply condT | ((first | apply bodyQ_d0 | apply bodyQ_d1 | apply bodyQ_d2 | apply bodyQ_d3 | apply bodyQ_d4); (exact .inr rfl); (rw [Try.results75]))); (first | (focus (simp only [go_sem, ↓reduceIte, simprocAttr, Int.ofNat_lt.2 hlt, t5, t0, t4, hc, hvl, hsu] <;> rfl)) | exact rfl); (first | (fail_if_success (show okD _ _ _ _ _ _ _ _ _)) | (first | exact okT | exact okN | exact okE rfl)); (first | (fail_if_success (show Bel _ _)) | (focus first | exact .val _ | (simp [oneOf, Bel_iff_tup, Bel_iff_agg, Bel_iff_rsl, Bel_iff_fn, Bel_iff_rptr, Bel_val]; done)))) | (apply calTo0; (exact rfl); (iterate 2 (simp only [go_sem, ↓reduceIte, simprocAttr, Int.ofNat_lt.2 hlt, t5, t0, t4, hc, hvl, hsu]; rfl)); (first | exact hva); (first | exact okT | exact okN | exact okE rfl)) | refine thenQ_n ?_ | refine thenQ_r ?_ | refine thenQ_e ?_ | refine blockQ_n ?_ | refine blockQ_r ?_ | refine blockQ_e ?_ | (apply blockQ_o; (exact rfl)) | refine Awp.seq ?_ | refine Awp.skip ?_ | refine Awp.block ?_ | refine reg (fun s => false) ?_ | (apply drwE mixed (fun s => false); (kernel_rfl)) | refine fin ?_ | refine Awp.ret ?_ | refine Awp.exit ?_ | ((first | (apply off; (exact rfl)) | apply condF); (first | (focus (simp only [go_sem, ↓reduceIte, simprocAttr, Int.ofNat_lt.2 hlt, t5, t0, t4, hc, hvl, hsu] <;> rfl)) | exact rfl)))
      all_goals first | contradiction | (exfalso; omega) | skip
      refine ⟨i + 1, ⟨hlt, ?_, ?_, ?_, rfl⟩, Nat.sub_lt_sub_left hlt (Nat.lt_succ_self i)⟩
      · (first | (focus (simp only [go_sem, ↓reduceIte, simprocAttr, hsu]; first | done | rfl)) | rfl)
      · (first | (focus (simp only [go_sem, ↓reduceIte, simprocAttr, t0]; first | done | rfl)) | rfl)
      · (first | (focus (simp only [go_sem, ↓reduceIte, simprocAttr, t4]; first | done | rfl)) | rfl)
    · have hie : i = R.length := Nat.le_antisymm hi (Nat.not_lt.1 hlt)
      subst hie
      repeat' (first | refine spD (fun _ => ?_) (fun _ => ?_) | refine spF (fun _ => ?_) (fun _ => ?_) | (apply gT; (exact rfl)) | (apply off; (exact rfl); (exact rfl)) | (apply condT; (exact rfl)) | (apply condF; (exact rfl)) | ((first | (apply stp0; (exact rfl); (exact rfl)) | (apply stpN0; (exact rfl)) | apply gT | apply condT | ((first | apply bodyQ_d0 | apply bodyQ_d1 | apply bodyQ_d2 | apply bodyQ_d3 | apply bodyQ_d4); (exact .inr rfl); (rw [Try.results75]))); (first | (focus (simp only [go_sem, ↓reduceIte, simprocAttr, Int.lt_irrefl, t5, t0, t4, hvl] <;> rfl)) | exact rfl); (first | (fail_if_success (show okD _ _ _ _ _ _ _ _ _)) | (first | exact okT | exact okN | exact okE rfl)); (first | (fail_if_success (show Bel _ _)) | (focus first | exact .val _ | (simp [oneOf, Bel_iff_tup, Bel_iff_agg, Bel_iff_rsl, Bel_iff_fn, Bel_iff_rptr, Bel_val]; done)))) | refine thenQ_n ?_ | refine thenQ_r ?_ | refine thenQ_e ?_ | refine blockQ_n ?_ | refine blockQ_r ?_ | refine blockQ_e ?_ | (apply blockQ_o; (exact rfl)) | refine Awp.seq ?_ | refine Awp.skip ?_ | refine Awp.block ?_ | refine reg (fun s => false) ?_ | (apply drwE mixed (fun s => false); (kernel_rfl)) | refine fin ?_ | refine Awp.ret ?_ | refine Awp.exit ?_ | ((first | (apply off; (exact rfl)) | apply condF); (first | (focus (simp only [go_sem, ↓reduceIte, simprocAttr, Int.lt_irrefl, t5, t0, t4, hvl] <;> rfl)) | exact rfl)))
      all_goals first | contradiction | (exfalso; omega) | skip
      exact ⟨rfl, by (first | (focus (simp only [go_sem, ↓reduceIte, simprocAttr, t0]; first | done | rfl)) | rfl), by (first | (focus (simp only [go_sem, ↓reduceIte, simprocAttr, t4]; first | done | rfl)) | rfl), rfl⟩
  rintro e T K ⟨rfl, t0, t4, hK⟩
  rw [hK]
  repeat' ((fail_if_success (apply stopR (id := 9))); (fail_if_success (apply stopS (id := 9))); first | refine spD (fun _ => ?_) (fun _ => ?_) | refine spF (fun _ => ?_) (fun _ => ?_) | (apply gT; (exact rfl)) | (apply off; (exact rfl); (exact rfl)) | (apply condT; (exact rfl)) | (apply condF; (exact rfl)) | ((first | (apply stp0; (exact rfl); (exact rfl)) | (apply stpN0; (exact rfl)) | apply gT | apply condT | ((first | apply bodyQ_d0 | apply bodyQ_d1 | apply bodyQ_d2 | apply bodyQ_d3 | apply bodyQ_d4); (exact .inr rfl); (rw [Try.results75]))); (first | (focus (simp only [go_sem, ↓reduceIte, simprocAttr] <;> rfl)) | exact rfl); (first | (fail_if_success (show okD _ _ _ _ _ _ _ _ _)) | (first | exact okT | exact okN | exact okE rfl)); (first | (fail_if_success (show Bel _ _)) | (focus first | exact .val _ | (simp [oneOf, Bel_iff_tup, Bel_iff_agg, Bel_iff_rsl, Bel_iff_fn, Bel_iff_rptr, Bel_val]; done)))) | refine thenQ_n ?_ | refine thenQ_r ?_ | refine thenQ_e ?_ | refine blockQ_n ?_ | refine blockQ_r ?_ | refine blockQ_e ?_ | (apply blockQ_o; (exact rfl)) | refine Awp.seq ?_ | refine Awp.skip ?_ | refine Awp.block ?_ | refine reg (fun s => false) ?_ | (apply drwE mixed (fun s => false); (kernel_rfl)) | refine fin ?_ | refine Awp.ret ?_ | refine Awp.exit ?_ | ((first | (apply off; (exact rfl)) | apply condF); (first | (focus (simp only [go_sem, ↓reduceIte, simprocAttr] <;> rfl)) | exact rfl)))
  all_goals first | contradiction | (exfalso; omega) | skip
  refine Awp.frzOwn (lo := 0) (t := 70) (es := []) 4 .nil t4 ?_
  refine Awp.withT (fun T' => T' 0 = .rsl (sps (sing R)) ex ∧ T' 4 = .rsl (sps (ackT R 0)) false) ⟨by (first | (focus (simp only [go_sem, ↓reduceIte, simprocAttr, t0]; first | done | rfl)) | rfl), by (first | (focus (simp only [go_sem, ↓reduceIte, simprocAttr]; first | done | rfl)) | rfl)⟩ ?_
  clear t0 t4 T
  rintro T ⟨t0, t4⟩
  show Awp _ _ _ _ T H _
  repeat' (first | refine spD (fun _ => ?_) (fun _ => ?_) | refine spF (fun _ => ?_) (fun _ => ?_) | (apply gT; (exact rfl)) | (apply off; (exact rfl); (exact rfl)) | (apply condT; (exact rfl)) | (apply condF; (exact rfl)) | ((first | (apply stp0; (exact rfl); (exact rfl)) | (apply stpN0; (exact rfl)) | apply gT | apply condT | ((first | apply bodyQ_d0 | apply bodyQ_d1 | apply bodyQ_d2 | apply bodyQ_d3 | apply bodyQ_d4); (exact .inr rfl); (rw [Try.results75]))); (first | (focus (simp only [go_sem, ↓reduceIte, simprocAttr, t0, t4] <;> rfl)) | exact rfl); (first | (fail_if_success (show okD _ _ _ _ _ _ _ _ _)) | (first | exact okT | exact okN | exact okE rfl)); (first | (fail_if_success (show Bel _ _)) | (focus first | exact .val _ | (simp [oneOf, Bel_iff_tup, Bel_iff_agg, Bel_iff_rsl, Bel_iff_fn, Bel_iff_rptr, Bel_val]; done)))) | refine thenQ_n ?_ | refine thenQ_r ?_ | refine thenQ_e ?_ | refine blockQ_n ?_ | refine blockQ_r ?_ | refine blockQ_e ?_ | (apply blockQ_o; (exact rfl)) | refine Awp.seq ?_ | refine Awp.skip ?_ | refine Awp.block ?_ | refine reg (fun s => false) ?_ | (apply drwE mixed (fun s => false); (kernel_rfl)) | refine fin ?_ | refine Awp.ret ?_ | refine Awp.exit ?_ | ((first | (apply off; (exact rfl)) | apply condF); (first | (focus (simp only [go_sem, ↓reduceIte, simprocAttr, t0, t4] <;> rfl)) | exact rfl)))
  all_goals first | contradiction | (exfalso; omega) | skip
  refine Awp.loop (ι := Nat) (fun i T' K => i ≤ R.length ∧ T' 6 = iv i ∧ T' 0 = .rsl (sps (sing R)) ex ∧ T' 4 = .rsl (sps (ackT R i)) false ∧ K = H) (fun i => R.length - i) 0 ?_ ?_
  · exact ⟨Nat.zero_le _, by (first | (focus (simp only [go_sem, ↓reduceIte, simprocAttr]; first | done | rfl)) | rfl), by (first | (focus (simp only [go_sem, ↓reduceIte, simprocAttr, t0]; first | done | rfl)) | rfl), by (first | (focus (simp only [go_sem, ↓reduceIte, simprocAttr, t4]; first | done | rfl)) | rfl), rfl⟩
  clear t0 t4 T
  rintro i T K ⟨hi, t6, t0, t4, hK⟩
  rw [hK]
  by_cases hlt : i < R.length
  · obtain ⟨r, hr⟩ := nth hlt
    have hc := sing_at hr
    have hrok := hok r (List.mem_of_getElem? hr)
    simp only [Item.ok] at hrok
    obtain ⟨hg1, hg2⟩ := ackT_gap hs hok i
    have hlen := ackT_len R i
    have hin : ∀ p ∈ ackT R i, 0 ≤ p.1 ∧ p.1 ≤ p.2 ∧ p.2 < r.id := fun p hp => by
      obtain ⟨a, b, j, x, hj, hx, e⟩ := hg2 p hp
      have g1 := List.getElem?_eq_some_iff.1 hx
      have g2 := List.getElem?_eq_some_iff.1 hr
      have := List.pairwise_iff_getElem.1 hs j i g1.1 g2.1 hj
      rw [g1.2, g2.2] at this
      omega
    have hp := putX H (ackT R i) false r.id hin (by omega) (by omega)
    rw [put_ack hg1 hin, ← ackT_succ hr] at hp
    have hsu := wsucc hlt hlm
    repeat' (first | refine spD (fun _ => ?_) (fun _ => ?_) | refine spF (fun _ => ?_) (fun _ => ?_) | (apply gT; (exact rfl)) | (apply off; (exact rfl); (exact rfl)) | (apply condT; (exact rfl)) | (apply condF; (exact rfl)) | ((first | (apply stp0; (exact rfl); (exact rfl)) | (apply stpN0; (exact rfl)) | apply gT | apply condT | ((first | apply bodyQ_d0 | apply bodyQ_d1 | apply bodyQ_d2 | apply bodyQ_d3 | apply bodyQ_d4); (exact .inr rfl); (rw [Try.results75]))); (first | (focus (simp only [go_sem, ↓reduceIte, simprocAttr, Int.ofNat_lt.2 hlt, t6, t0, t4, hc, hvl, hsu] <;> rfl)) | exact rfl); (first | (fail_if_success (show okD _ _ _ _ _ _ _ _ _)) | (first | exact okT | exact okN | exact okE rfl)); (first | (fail_if_success (show Bel _ _)) | (focus first | exact .val _ | (simp [oneOf, Bel_iff_tup, Bel_iff_agg, Bel_iff_rsl, Bel_iff_fn, Bel_iff_rptr, Bel_val]; done)))) | (apply calTo0; (exact rfl); (iterate 2 (simp only [go_sem, ↓reduceIte, simprocAttr, Int.ofNat_lt.2 hlt, t6, t0, t4, hc, hvl, hsu]; rfl)); (first | exact hp); (first | exact okT | exact okN | exact okE rfl)) | refine thenQ_n ?_ | refine thenQ_r ?_ | refine thenQ_e ?_ | refine blockQ_n ?_ | refine blockQ_r ?_ | refine blockQ_e ?_ | (apply blockQ_o; (exact rfl)) | refine Awp.seq ?_ | refine Awp.skip ?_ | refine Awp.block ?_ | refine reg (fun s => false) ?_ | (apply drwE mixed (fun s => false); (kernel_rfl)) | refine fin ?_ | refine Awp.ret ?_ | refine Awp.exit ?_ | ((first | (apply off; (exact rfl)) | apply condF); (first | (focus (simp only [go_sem, ↓reduceIte, simprocAttr, Int.ofNat_lt.2 hlt, t6, t0, t4, hc, hvl, hsu] <;> rfl)) | exact rfl)))
    all_goals first | contradiction | (exfalso; omega) | skip
    refine ⟨i + 1, ⟨hlt, ?_, ?_, ?_, rfl⟩, Nat.sub_lt_sub_left hlt (Nat.lt_succ_self i)⟩
    · (first | (focus (simp only [go_sem, ↓reduceIte, simprocAttr, hsu]; first | done | rfl)) | rfl)
    · (first | (focus (simp only [go_sem, ↓reduceIte, simprocAttr, t0]; first | done | rfl)) | rfl)
    · (first | (focus (simp only [go_sem, ↓reduceIte, simprocAttr]; first | done | rfl)) | rfl)
  · have hie : i = R.length := Nat.le_antisymm hi (Nat.not_lt.1 hlt)
    subst hie
    repeat' (first | refine spD (fun _ => ?_) (fun _ => ?_) | refine spF (fun _ => ?_) (fun _ => ?_) | (apply gT; (exact rfl)) | (apply off; (exact rfl); (exact rfl)) | (apply condT; (exact rfl)) | (apply condF; (exact rfl)) | ((first | (apply stp0; (exact rfl); (exact rfl)) | (apply stpN0; (exact rfl)) | apply gT | apply condT); (first | (focus (simp only [go_sem, ↓reduceIte, simprocAttr, Int.lt_irrefl, t6, t0, t4, hvl] <;> rfl)) | exact rfl); (first | (fail_if_success (show okD _ _ _ _ _ _ _ _ _)) | (first | exact okT | exact okN | exact okE rfl))) | refine thenQ_n ?_ | refine thenQ_r ?_ | refine thenQ_e ?_ | refine blockQ_n ?_ | refine blockQ_r ?_ | refine blockQ_e ?_ | (apply blockQ_o; (exact rfl)) | refine Awp.seq ?_ | refine Awp.skip ?_ | refine Awp.block ?_ | refine reg (fun s => false) ?_ | (apply drwE mixed (fun s => false); (kernel_rfl)) | refine fin ?_ | refine Awp.ret ?_ | refine Awp.exit ?_ | ((first | (apply off; (exact rfl)) | apply condF); (first | (focus (simp only [go_sem, ↓reduceIte, simprocAttr, Int.lt_irrefl, t6, t0, t4, hvl] <;> rfl)) | exact rfl)))
    all_goals first | contradiction | (exfalso; omega) | skip
    exact bodyQ_mk (vs := [.rsl (sps (ackL R)) false, iv 0]) (.inr rfl) (by rw [Try.results75]; simp only [go_sem, ↓reduceIte, simprocAttr, t4]; rfl) (Vs.refl _ _ _) ⟨rfl, rfl⟩

set_option maxRecDepth 8000 in
set_option maxHeartbeats 4000000 in
theorem rAcksX {H : Hp} {q : Nat} {a : AV} {R : List Item} (hQ : RqX H q a R) (hs : srtR R) (hok : ∀ r ∈ R, r.ok) (hl : R.length ≤ 256) : CallsTo Try.prog 43 [.mptr q 0 0] H (.rsl (sps (ackL R)) false) H := by
  have hb := hQ.hb
  have hlm : R.length ≤ maxLen := by simp only [maxLen]; omega
  refine ACalls.of_body Try.func43 rfl (by kernel_rfl) (by rw [Try.ntmps43]; simp) ?_; rw [Try.ntmps43]
  repeat' ((fail_if_success (apply stopR (id := 2))); (fail_if_success (apply stopS (id := 2))); first | refine spD (fun _ => ?_) (fun _ => ?_) | refine spF (fun _ => ?_) (fun _ => ?_) | (apply gT; (exact rfl)) | (apply off; (exact rfl); (exact rfl)) | (apply condT; (exact rfl)) | (apply condF; (exact rfl)) | ((first | (apply stp0; (exact rfl); (exact rfl)) | (apply stpN0; (exact rfl)) | apply gT | apply condT | ((first | apply bodyQ_d0 | apply bodyQ_d1 | apply bodyQ_d2 | apply bodyQ_d3 | apply bodyQ_d4); (exact .inr rfl); (rw [Try.results43]))); (first | (focus (simp only [go_sem, ↓reduceIte, simprocAttr] <;> rfl)) | exact rfl); (first | (fail_if_success (show okD _ _ _ _ _ _ _ _ _)) | (first | exact okT | exact okN | exact okE rfl)); (first | (fail_if_success (show Bel _ _)) | (focus first | exact .val _ | (simp [oneOf, Bel_iff_tup, Bel_iff_agg, Bel_iff_rsl, Bel_iff_fn, Bel_iff_rptr, Bel_val]; done)))) | refine thenQ_n ?_ | refine thenQ_r ?_ | refine thenQ_e ?_ | refine blockQ_n ?_ | refine blockQ_r ?_ | refine blockQ_e ?_ | (apply blockQ_o; (exact rfl)) | refine Awp.seq ?_ | refine Awp.skip ?_ | refine Awp.block ?_ | refine reg (fun s => false) ?_ | (apply drwE mixed (fun s => false); (kernel_rfl)) | refine fin ?_ | refine Awp.ret ?_ | refine Awp.exit ?_ | ((first | (apply off; (exact rfl)) | apply condF); (first | (focus (simp only [go_sem, ↓reduceIte, simprocAttr] <;> rfl)) | exact rfl)))
  all_goals first | contradiction | (exfalso; omega) | skip
  refine Awp.mono (Q := fun e T' K => e = .normal ∧ Grow H K ∧ ∃ z, T' 3 = z ∧ OutS H.length K z (sing R)) ?_ ?_
  · obtain ⟨R', hR'⟩ : ∃ R', R' = R := ⟨_, rfl⟩
    have hrow := hQ.row
    rw [← hR'] at hrow ⊢
    cases hrow with
    | nil =>
      repeat' (first | refine spD (fun _ => ?_) (fun _ => ?_) | refine spF (fun _ => ?_) (fun _ => ?_) | (apply gT; (exact rfl)) | (apply off; (exact rfl); (exact rfl)) | (apply condT; (exact rfl)) | (apply condF; (exact rfl)) | ((first | (apply stp0; (exact rfl); (exact rfl)) | (apply stpN0; (exact rfl)) | apply gT | apply condT | ((first | apply bodyQ_d0 | apply bodyQ_d1 | apply bodyQ_d2 | apply bodyQ_d3 | apply bodyQ_d4); (exact .inr rfl); (rw [Try.results43]))); (first | (focus (simp only [go_sem, ↓reduceIte, simprocAttr] <;> rfl)) | exact rfl); (first | (fail_if_success (show okD _ _ _ _ _ _ _ _ _)) | (first | exact okT | exact okN | exact okE rfl)); (first | (fail_if_success (show Bel _ _)) | (focus first | exact .val _ | (simp [oneOf, Bel_iff_tup, Bel_iff_agg, Bel_iff_rsl, Bel_iff_fn, Bel_iff_rptr, Bel_val]; done)))) | refine thenQ_n ?_ | refine thenQ_r ?_ | refine thenQ_e ?_ | refine blockQ_n ?_ | refine blockQ_r ?_ | refine blockQ_e ?_ | (apply blockQ_o; (exact rfl)) | refine Awp.seq ?_ | refine Awp.skip ?_ | refine Awp.block ?_ | refine reg (fun s => false) ?_ | (apply drwE mixed (fun s => false); (kernel_rfl)) | refine fin ?_ | refine Awp.ret ?_ | refine Awp.exit ?_ | ((first | (apply off; (exact rfl)) | apply condF); (first | (focus (simp only [go_sem, ↓reduceIte, simprocAttr] <;> rfl)) | exact rfl)))
      all_goals first | contradiction | (exfalso; omega) | skip
      refine Awp.loop (ι := Nat) (fun _ T' K => T' 4 = iv 0 ∧ T' 0 = .mptr q 0 0 ∧ T' 3 = nilS ∧ K = H) (fun m => m) 0 ?_ ?_
      · exact ⟨by (first | (focus (simp only [go_sem, ↓reduceIte, simprocAttr]; first | done | rfl)) | rfl), by (first | (focus (simp only [go_sem, ↓reduceIte, simprocAttr]; first | done | rfl)) | rfl), by (first | (focus (simp only [go_sem, ↓reduceIte, simprocAttr]; first | done | rfl)) | rfl), rfl⟩
      rintro m T K ⟨t4, t0, t3, hK⟩
      rw [hK]
      repeat' (first | refine spD (fun _ => ?_) (fun _ => ?_) | refine spF (fun _ => ?_) (fun _ => ?_) | (apply gT; (exact rfl)) | (apply off; (exact rfl); (exact rfl)) | (apply condT; (exact rfl)) | (apply condF; (exact rfl)) | ((first | (apply stp0; (exact rfl); (exact rfl)) | (apply stpN0; (exact rfl)) | apply gT | apply condT | ((first | apply bodyQ_d0 | apply bodyQ_d1 | apply bodyQ_d2 | apply bodyQ_d3 | apply bodyQ_d4); (exact .inr rfl); (rw [Try.results43]))); (first | (focus (simp only [go_sem, ↓reduceIte, simprocAttr, t4, t0, t3, hb] <;> rfl)) | exact rfl); (first | (fail_if_success (show okD _ _ _ _ _ _ _ _ _)) | (first | exact okT | exact okN | exact okE rfl)); (first | (fail_if_success (show Bel _ _)) | (focus first | exact .val _ | (simp [oneOf, Bel_iff_tup, Bel_iff_agg, Bel_iff_rsl, Bel_iff_fn, Bel_iff_rptr, Bel_val]; done)))) | refine thenQ_n ?_ | refine thenQ_r ?_ | refine thenQ_e ?_ | refine blockQ_n ?_ | refine blockQ_r ?_ | refine blockQ_e ?_ | (apply blockQ_o; (exact rfl)) | refine Awp.seq ?_ | refine Awp.skip ?_ | refine Awp.block ?_ | refine reg (fun s => false) ?_ | (apply drwE mixed (fun s => false); (kernel_rfl)) | refine fin ?_ | refine Awp.ret ?_ | refine Awp.exit ?_ | ((first | (apply off; (exact rfl)) | apply condF); (first | (focus (simp only [go_sem, ↓reduceIte, simprocAttr, t4, t0, t3, hb] <;> rfl)) | exact rfl)))
      all_goals first | contradiction | (exfalso; omega) | skip
      exact ⟨rfl, Grow.refl _, nilS, by (first | (focus (simp only [go_sem, ↓reduceIte, simprocAttr, t3]; first | done | rfl)) | rfl), .nil⟩
    | row hbv hn =>
      rename_i o n v
      have hln : (v.take n).length = n := by rw [List.length_take, Nat.min_eq_left hn]
      rw [← hR', hln] at hl hlm
      have hvl := its_len v
      repeat' (first | refine spD (fun _ => ?_) (fun _ => ?_) | refine spF (fun _ => ?_) (fun _ => ?_) | (apply gT; (exact rfl)) | (apply off; (exact rfl); (exact rfl)) | (apply condT; (exact rfl)) | (apply condF; (exact rfl)) | ((first | (apply stp0; (exact rfl); (exact rfl)) | (apply stpN0; (exact rfl)) | apply gT | apply condT | ((first | apply bodyQ_d0 | apply bodyQ_d1 | apply bodyQ_d2 | apply bodyQ_d3 | apply bodyQ_d4); (exact .inr rfl); (rw [Try.results43]))); (first | (focus (simp only [go_sem, ↓reduceIte, simprocAttr] <;> rfl)) | exact rfl); (first | (fail_if_success (show okD _ _ _ _ _ _ _ _ _)) | (first | exact okT | exact okN | exact okE rfl)); (first | (fail_if_success (show Bel _ _)) | (focus first | exact .val _ | (simp [oneOf, Bel_iff_tup, Bel_iff_agg, Bel_iff_rsl, Bel_iff_fn, Bel_iff_rptr, Bel_val]; done)))) | refine thenQ_n ?_ | refine thenQ_r ?_ | refine thenQ_e ?_ | refine blockQ_n ?_ | refine blockQ_r ?_ | refine blockQ_e ?_ | (apply blockQ_o; (exact rfl)) | refine Awp.seq ?_ | refine Awp.skip ?_ | refine Awp.block ?_ | refine reg (fun s => false) ?_ | (apply drwE mixed (fun s => false); (kernel_rfl)) | refine fin ?_ | refine Awp.ret ?_ | refine Awp.exit ?_ | ((first | (apply off; (exact rfl)) | apply condF); (first | (focus (simp only [go_sem, ↓reduceIte, simprocAttr] <;> rfl)) | exact rfl)))
      all_goals first | contradiction | (exfalso; omega) | skip
      refine Awp.loop (ι := Nat) (fun i T' K => i ≤ n ∧ T' 4 = iv i ∧ T' 0 = .mptr q 0 0 ∧ Grow H K ∧ ∃ z, T' 3 = z ∧ OutS H.length K z (sing ((v.take n).take i))) (fun i => n - i) 0 ?_ ?_
      · exact ⟨Nat.zero_le _, by (first | (focus (simp only [go_sem, ↓reduceIte, simprocAttr]; first | done | rfl)) | rfl), by (first | (focus (simp only [go_sem, ↓reduceIte, simprocAttr]; first | done | rfl)) | rfl), Grow.refl _, nilS, by (first | (focus (simp only [go_sem, ↓reduceIte, simprocAttr]; first | done | rfl)) | rfl), .nil⟩
      rintro i T K ⟨hi, t4, t0, hG, z, t3, hO⟩
      have hbK := hG.get hb
      have hvK := hG.get hbv
      by_cases hlt : i < n
      · obtain ⟨h, hh⟩ := nth (l := v.take n) (i := i) (by omega)
        have hvi : (its v)[i]? = some [iv h.id, iv h.cls, iv h.made, iv h.size, iv h.pk] := by
          have h2 := hh
          rw [List.getElem?_take, if_pos hlt] at h2
          exact its_at h2
        have hsu := wsucc hlt hlm
        have hsc : sing ((v.take n).take (i + 1)) = sing ((v.take n).take i) ++ [(h.id, h.id)] := by
          rw [List.take_add_one, hh]; simp [sing]
        have hsl : (sing ((v.take n).take i)).length ≤ i := by rw [sing_len, List.length_take]; omega
        have hOR : OwnR H.length 70 2 16 K z (sps (sing ((v.take n).take i))) := ⟨hO.own, sps_two _, by rw [sps_len]; omega⟩
        repeat' (first | refine spD (fun _ => ?_) (fun _ => ?_) | refine spF (fun _ => ?_) (fun _ => ?_) | (apply gT; (exact rfl)) | (apply off; (exact rfl); (exact rfl)) | (apply condT; (exact rfl)) | (apply condF; (exact rfl)) | ((first | (apply stp0; (exact rfl); (exact rfl)) | (apply stpN0; (exact rfl)) | apply gT | apply condT | ((first | apply bodyQ_d0 | apply bodyQ_d1 | apply bodyQ_d2 | apply bodyQ_d3 | apply bodyQ_d4); (exact .inr rfl); (rw [Try.results43]))); (first | (focus (simp only [go_sem, ↓reduceIte, simprocAttr, Int.ofNat_lt.2 hlt, t4, t0, t3, hbK, hvK, hvl, hvi, hlt, Nat.zero_add, hsu] <;> rfl)) | exact rfl); (first | (fail_if_success (show okD _ _ _ _ _ _ _ _ _)) | (first | exact okT | exact okN | exact okE rfl)); (first | (fail_if_success (show Bel _ _)) | (focus first | exact .val _ | (simp [oneOf, Bel_iff_tup, Bel_iff_agg, Bel_iff_rsl, Bel_iff_fn, Bel_iff_rptr, Bel_val]; done)))) | (apply stpApp; (exact rfl); (first | exact hOR); (iterate 2 (first | (focus (simp only [go_sem, ↓reduceIte, simprocAttr, Int.ofNat_lt.2 hlt, t4, t0, t3, hbK, hvK, hvl, hvi, hlt, Nat.zero_add, hsu] <;> rfl)) | rfl)); (first | rfl | (simp [AV.isCell]; done)); (first | rfl | (simp; done)); (first | exact ap39 | exact ap44 | exact ap46 | exact ap61 | exact ap63 | exact ap75 | exact ap86 | exact ap101 | exact ap102); (first | exact okT | exact okN | exact okE rfl)) | refine thenQ_n ?_ | refine thenQ_r ?_ | refine thenQ_e ?_ | refine blockQ_n ?_ | refine blockQ_r ?_ | refine blockQ_e ?_ | (apply blockQ_o; (exact rfl)) | refine Awp.seq ?_ | refine Awp.skip ?_ | refine Awp.block ?_ | refine reg (fun s => false) ?_ | (apply drwE mixed (fun s => false); (kernel_rfl)) | refine fin ?_ | refine Awp.ret ?_ | refine Awp.exit ?_ | ((first | (apply off; (exact rfl)) | apply condF); (first | (focus (simp only [go_sem, ↓reduceIte, simprocAttr, Int.ofNat_lt.2 hlt, t4, t0, t3, hbK, hvK, hvl, hvi, hlt, Nat.zero_add, hsu] <;> rfl)) | exact rfl)))
        all_goals first | contradiction | (exfalso; omega) | skip
        refine ⟨i + 1, ⟨hlt, ?_, ?_, (hO.own.grow (Nat.le_refl _) hG).app _, .msl K.length 0 ((sps (sing ((v.take n).take i))).length + 1), ?_, ?_⟩, Nat.sub_lt_sub_left hlt (Nat.lt_succ_self i)⟩
        · (first | (focus (simp only [go_sem, ↓reduceIte, simprocAttr, hsu]; first | done | rfl)) | rfl)
        · (first | (focus (simp only [go_sem, ↓reduceIte, simprocAttr, t0]; first | done | rfl)) | rfl)
        · (first | (focus (simp only [go_sem, ↓reduceIte, simprocAttr]; first | done | rfl)) | rfl)
        · rw [hsc]; exact hO.next hG.len (h.id, h.id) rfl (by rw [sps_len])
      · have hie : i = n := Nat.le_antisymm hi (Nat.not_lt.1 hlt)
        subst hie
        rw [List.take_take, Nat.min_self] at hO
        repeat' (first | refine spD (fun _ => ?_) (fun _ => ?_) | refine spF (fun _ => ?_) (fun _ => ?_) | (apply gT; (exact rfl)) | (apply off; (exact rfl); (exact rfl)) | (apply condT; (exact rfl)) | (apply condF; (exact rfl)) | ((first | (apply stp0; (exact rfl); (exact rfl)) | (apply stpN0; (exact rfl)) | apply gT | apply condT | ((first | apply bodyQ_d0 | apply bodyQ_d1 | apply bodyQ_d2 | apply bodyQ_d3 | apply bodyQ_d4); (exact .inr rfl); (rw [Try.results43]))); (first | (focus (simp only [go_sem, ↓reduceIte, simprocAttr, Int.lt_irrefl, t4, t0, t3, hbK] <;> rfl)) | exact rfl); (first | (fail_if_success (show okD _ _ _ _ _ _ _ _ _)) | (first | exact okT | exact okN | exact okE rfl)); (first | (fail_if_success (show Bel _ _)) | (focus first | exact .val _ | (simp [oneOf, Bel_iff_tup, Bel_iff_agg, Bel_iff_rsl, Bel_iff_fn, Bel_iff_rptr, Bel_val]; done)))) | refine thenQ_n ?_ | refine thenQ_r ?_ | refine thenQ_e ?_ | refine blockQ_n ?_ | refine blockQ_r ?_ | refine blockQ_e ?_ | (apply blockQ_o; (exact rfl)) | refine Awp.seq ?_ | refine Awp.skip ?_ | refine Awp.block ?_ | refine reg (fun s => false) ?_ | (apply drwE mixed (fun s => false); (kernel_rfl)) | refine fin ?_ | refine Awp.ret ?_ | refine Awp.exit ?_ | ((first | (apply off; (exact rfl)) | apply condF); (first | (focus (simp only [go_sem, ↓reduceIte, simprocAttr, Int.lt_irrefl, t4, t0, t3, hbK] <;> rfl)) | exact rfl)))
        all_goals first | contradiction | (exfalso; omega) | skip
        exact ⟨rfl, hG, z, by (first | (focus (simp only [go_sem, ↓reduceIte, simprocAttr, t3]; first | done | rfl)) | rfl), hO⟩
  rintro e T K ⟨rfl, hG, z, t3, hO⟩
  refine thenQ_n ?_
  refine Awp.frzOwn 3 hO.own t3 ?_
  have hG2 := hO.own.grow (Nat.le_refl _) hG
  generalize ownK K z = J at *
  have hcov := coverX J hs hok hl false
  refine Awp.withT (fun T' => T' 3 = .rsl (sps (sing R)) false) (by (first | (focus (simp only [go_sem, ↓reduceIte, simprocAttr]; first | done | rfl)) | rfl)) ?_
  clear t3 T
  rintro T t3
  repeat' (first | refine spD (fun _ => ?_) (fun _ => ?_) | refine spF (fun _ => ?_) (fun _ => ?_) | (apply gT; (exact rfl)) | (apply off; (exact rfl); (exact rfl)) | (apply condT; (exact rfl)) | (apply condF; (exact rfl)) | ((first | (apply stp0; (exact rfl); (exact rfl)) | (apply stpN0; (exact rfl)) | apply gT | apply condT); (first | (focus (simp only [go_sem, ↓reduceIte, simprocAttr, t3] <;> rfl)) | exact rfl); (first | (fail_if_success (show okD _ _ _ _ _ _ _ _ _)) | (first | exact okT | exact okN | exact okE rfl))) | (apply calTo0; (exact rfl); (iterate 2 (simp only [go_sem, ↓reduceIte, simprocAttr, t3]; rfl)); (first | exact hcov); (first | exact okT | exact okN | exact okE rfl)) | refine thenQ_n ?_ | refine thenQ_r ?_ | refine thenQ_e ?_ | refine blockQ_n ?_ | refine blockQ_r ?_ | refine blockQ_e ?_ | (apply blockQ_o; (exact rfl)) | refine Awp.seq ?_ | refine Awp.skip ?_ | refine Awp.block ?_ | refine reg (fun s => false) ?_ | (apply drwE mixed (fun s => false); (kernel_rfl)) | refine fin ?_ | refine Awp.ret ?_ | refine Awp.exit ?_ | ((first | (apply off; (exact rfl)) | apply condF); (first | (focus (simp only [go_sem, ↓reduceIte, simprocAttr, t3] <;> rfl)) | exact rfl)))
  all_goals first | contradiction | (exfalso; omega) | skip
  exact bodyQ_sameG (vs := [.rsl (sps (ackL R)) false]) (.inr rfl) (by rw [Try.results43]; simp only [go_sem, ↓reduceIte, simprocAttr]) hG2 (Bel_plain (sps_plain _) _ _) rfl

end Go.Proofs.Ytlhchnnfgppneaa.Ab
