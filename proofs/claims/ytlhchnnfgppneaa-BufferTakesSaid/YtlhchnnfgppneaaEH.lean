/- Inboxes: the reference's put. -/
import Derived.Test.YtlhchnnfgppneaaEG
import Derived.Test.YtlhchnnfgppneaaQ9
namespace Go.Proofs.Ytlhchnnfgppneaa.Ab
open Go Go.RowKit Go.Proofs
set_option linter.unusedSimpArgs false
set_option linter.unusedVariables false
attribute [local irreducible] Awp wpO thenQ blockQ bodyQ ACalls stepA

theorem OutS.low {lo : Nat} {H : Hp} {a : AV} {v : List (Int × Int)} (h : OutS lo H a v) {s : Nat} (hs : s < lo) (c : AObj) : OutS lo (H.set s c) a v := by
  cases h with
  | nil => exact .nil
  | row hne hlo hb => exact .row hne hlo (by rw [List.getElem?_set_ne (by omega)]; exact hb)
/-- one span more has been looked at -/
def pstp (st : List (Int × Int) × Int × Int) (p : Int × Int) : List (Int × Int) × Int × Int :=
  if p.2 + 1 < st.2.1 then (st.1 ++ [p], st.2) else (st.1, min st.2.1 p.1, max st.2.2 p.2)
def stP (s : List (Int × Int)) (id : Int) (i : Nat) : List (Int × Int) × Int × Int := (s.take i).foldl pstp ([], id, id)
theorem stP_succ {s : List (Int × Int)} {id : Int} {i : Nat} {p : Int × Int} (h : s[i]? = some p) : stP s id (i + 1) = pstp (stP s id i) p := by
  unfold stP
  rw [List.take_add_one, h]
  simp [List.foldl_append]
theorem stP_in {s : List (Int × Int)} {id : Int} (hs : ∀ p ∈ s, 0 ≤ p.1 ∧ p.1 ≤ p.2 ∧ p.2 < id) (h0 : 0 ≤ id) : ∀ i, i ≤ s.length → 0 ≤ (stP s id i).2.1 ∧ (stP s id i).2.1 ≤ id ∧ (stP s id i).2.2 = id ∧ (stP s id i).1.length ≤ i := by
  intro i
  induction i with
  | zero => intro _; exact ⟨h0, Int.le_refl _, rfl, Nat.le_refl _⟩
  | succ i ih =>
    intro hi
    obtain ⟨p, hp⟩ := nth (l := s) (i := i) (by omega)
    have hp2 := hs p (List.mem_of_getElem? hp)
    obtain ⟨h1, h2, h3, h4⟩ := ih (by omega)
    rw [stP_succ hp]
    unfold pstp
    split
    · exact ⟨h1, h2, h3, by simp; omega⟩
    · refine ⟨?_, ?_, ?_, by simp only; omega⟩
      · simp only; omega
      · simp only; omega
      · simp only; omega

set_option maxRecDepth 8000 in
set_option maxHeartbeats 8000000 in
theorem putX (H : Hp) (s : List (Int × Int)) (ex : Bool) (id : Int) (hs : ∀ p ∈ s, 0 ≤ p.1 ∧ p.1 ≤ p.2 ∧ p.2 < id) (hid : 0 ≤ id ∧ id ≤ 1073741824) (hm : s.length ≤ 300) :
    CallsTo Try.prog 102 [.rsl (sps s) ex, .agg [iv id, iv id]] H (.rsl (sps ((stP s id s.length).1 ++ [(stP s id s.length).2])) false) H := by
  have hvl := sps_len s
  have hlm : s.length ≤ maxLen := by simp only [maxLen]; omega
  have hin := stP_in hs hid.1
  have hG0 := (Grow.refl H).app [.cells [[iv id, iv id]] 70]
  have hx0 := get_new H (.cells [[iv id, iv id]] 70)
  refine ACalls.of_body Try.func102 rfl (by kernel_rfl) (by rw [Try.ntmps102]; simp) ?_; rw [Try.ntmps102]
  repeat' (first | refine spD (fun _ => ?_) (fun _ => ?_) | refine spF (fun _ => ?_) (fun _ => ?_) | (apply gT; (exact rfl)) | (apply off; (exact rfl); (exact rfl)) | (apply condT; (exact rfl)) | (apply condF; (exact rfl)) | ((first | (apply stp0; (exact rfl); (exact rfl)) | (apply stpN0; (exact rfl)) | apply gT | apply condT | ((first | apply bodyQ_d0 | apply bodyQ_d1 | apply bodyQ_d2 | apply bodyQ_d3 | apply bodyQ_d4); (exact .inr rfl); (rw [Try.results102]))); (first | (focus (simp only [go_sem, ↓reduceIte, simprocAttr, hvl] <;> rfl)) | exact rfl); (first | (fail_if_success (show okD _ _ _ _ _ _ _ _ _)) | (first | exact okT | exact okN | exact okE rfl)); (first | (fail_if_success (show Bel _ _)) | (focus first | exact .val _ | (simp [oneOf, Bel_iff_tup, Bel_iff_agg, Bel_iff_rsl, Bel_iff_fn, Bel_iff_rptr, Bel_val]; done)))) | refine thenQ_n ?_ | refine thenQ_r ?_ | refine thenQ_e ?_ | refine blockQ_n ?_ | refine blockQ_r ?_ | refine blockQ_e ?_ | (apply blockQ_o; (exact rfl)) | refine Awp.seq ?_ | refine Awp.skip ?_ | refine Awp.block ?_ | refine reg (fun s => s == 3) ?_ | (apply drwE mixed (fun s => s == 3); (kernel_rfl)) | refine fin ?_ | refine Awp.ret ?_ | refine Awp.exit ?_ | ((first | (apply off; (exact rfl)) | apply condF); (first | (focus (simp only [go_sem, ↓reduceIte, simprocAttr, hvl] <;> rfl)) | exact rfl)))
  all_goals first | contradiction | (exfalso; omega) | skip
  refine Awp.loop (ι := Nat) (fun i T' K => i ≤ s.length ∧ (T' 7 = iv i ∧ T' 0 = .rsl (sps s) ex ∧ T' 3 = .mptr H.length 0 0 ∧ T' 6 = nilS) ∧ Grow H K ∧ K[H.length]? = some (.cells [[iv (stP s id i).2.1, iv (stP s id i).2.2]] 70) ∧ ∃ a, T' 5 = a ∧ OutS (H.length + 1) K a (stP s id i).1) (fun i => s.length - i) 0 ?_ ?_
  · exact ⟨Nat.zero_le _, ⟨by (first | (focus (simp only [go_sem, ↓reduceIte, simprocAttr]; first | done | rfl)) | rfl), by (first | (focus (simp only [go_sem, ↓reduceIte, simprocAttr]; first | done | rfl)) | rfl), by (first | (focus (simp only [go_sem, ↓reduceIte, simprocAttr]; first | done | rfl)) | rfl), by (first | (focus (simp only [go_sem, ↓reduceIte, simprocAttr]; first | done | rfl)) | rfl)⟩, hG0, hx0, nilS, by (first | (focus (simp only [go_sem, ↓reduceIte, simprocAttr]; first | done | rfl)) | rfl), .nil⟩
  rintro i T K ⟨hi, ⟨t7, t0, t3, t6⟩, hG, hx, a, t5, hO⟩
  have hKl : H.length + 1 ≤ K.length := (List.getElem?_eq_some_iff.1 hx).1
  obtain ⟨b1, b2, b3, b4⟩ := hin i hi
  by_cases hlt : i < s.length
  · obtain ⟨p, hp⟩ := nth hlt
    have hp2 := hs p (List.mem_of_getElem? hp)
    have hpc := sps_at hp
    have hsu := wsucc hlt hlm
    have hlt' := Int.ofNat_lt.2 hlt
    have hsc := stP_succ (id := id) hp
    rw [b3] at hx
    obtain ⟨st, hst⟩ : ∃ st, st = stP s id i := ⟨_, rfl⟩
    rw [← hst] at hsc hx b1 b2 b3 b4 hO
    obtain ⟨bf, x1, x2⟩ := st
    simp only at hx b1 b2 b3 b4 hO
    subst b3
    have wp : IntKind.i64.wrap (p.2 + 1) = p.2 + 1 := w64 (by omega) (by omega)
    have wx : IntKind.i64.wrap (x2 + 1) = x2 + 1 := w64 (by omega) (by omega)
    have hng : ¬ p.1 > x2 + 1 := by omega
    by_cases hc : p.2 + 1 < x1
    · have hOR : OwnR (H.length + 1) 70 2 16 K a (sps bf) := ⟨hO.own, sps_two _, by rw [sps_len]; omega⟩
      have hsc2 : pstp (bf, x1, x2) p = (bf ++ [p], x1, x2) := by unfold pstp; rw [if_pos hc]
      rw [hsc2] at hsc
      repeat' (first | refine spD (fun _ => ?_) (fun _ => ?_) | refine spF (fun _ => ?_) (fun _ => ?_) | (apply gT; (exact rfl)) | (apply off; (exact rfl); (exact rfl)) | (apply condT; (exact rfl)) | (apply condF; (exact rfl)) | ((first | (apply stp0; (exact rfl); (exact rfl)) | (apply stpN0; (exact rfl)) | apply gT | apply condT | ((first | apply bodyQ_d0 | apply bodyQ_d1 | apply bodyQ_d2 | apply bodyQ_d3 | apply bodyQ_d4); (exact .inr rfl); (rw [Try.results102]))); (first | (focus (simp only [go_sem, ↓reduceIte, simprocAttr, hlt', t7, t0, t3, t5, t6, hvl, hpc, hx, wp, wx, hc, hsu] <;> rfl)) | exact rfl); (first | (fail_if_success (show okD _ _ _ _ _ _ _ _ _)) | (first | exact okT | exact okN | exact okE rfl)); (first | (fail_if_success (show Bel _ _)) | (focus first | exact .val _ | (simp [oneOf, Bel_iff_tup, Bel_iff_agg, Bel_iff_rsl, Bel_iff_fn, Bel_iff_rptr, Bel_val]; done)))) | (apply stpApp; (exact rfl); (first | exact hOR); (iterate 2 (first | (focus (simp only [go_sem, ↓reduceIte, simprocAttr, hlt', t7, t0, t3, t5, t6, hvl, hpc, hx, wp, wx, hc, hsu] <;> rfl)) | rfl)); (first | rfl | (simp [AV.isCell]; done)); (first | rfl | (simp; done)); (first | exact ap39 | exact ap44 | exact ap46 | exact ap61 | exact ap63 | exact ap75 | exact ap86 | exact ap101 | exact ap102); (first | exact okT | exact okN | exact okE rfl)) | refine thenQ_n ?_ | refine thenQ_r ?_ | refine thenQ_e ?_ | refine blockQ_n ?_ | refine blockQ_r ?_ | refine blockQ_e ?_ | (apply blockQ_o; (exact rfl)) | refine Awp.seq ?_ | refine Awp.skip ?_ | refine Awp.block ?_ | refine reg (fun s => s == 3) ?_ | (apply drwE mixed (fun s => s == 3); (kernel_rfl)) | refine fin ?_ | refine Awp.ret ?_ | refine Awp.exit ?_ | ((first | (apply off; (exact rfl)) | apply condF); (first | (focus (simp only [go_sem, ↓reduceIte, simprocAttr, hlt', t7, t0, t3, t5, t6, hvl, hpc, hx, wp, wx, hc, hsu] <;> rfl)) | exact rfl)))
      all_goals first | contradiction | (exfalso; omega) | skip
      refine ⟨i + 1, ⟨hlt, ⟨?_, ?_, ?_, ?_⟩, (hO.own.grow (Nat.le_succ _) hG).app _, ?_, .msl K.length 0 ((sps bf).length + 1), ?_, ?_⟩, Nat.sub_lt_sub_left hlt (Nat.lt_succ_self i)⟩
      · (first | (focus (simp only [go_sem, ↓reduceIte, simprocAttr, hsu]; first | done | rfl)) | rfl)
      · (first | (focus (simp only [go_sem, ↓reduceIte, simprocAttr, t0]; first | done | rfl)) | rfl)
      · (first | (focus (simp only [go_sem, ↓reduceIte, simprocAttr, t3]; first | done | rfl)) | rfl)
      · (first | (focus (simp only [go_sem, ↓reduceIte, simprocAttr, t6]; first | done | rfl)) | rfl)
      · rw [hsc, List.getElem?_append_left (by rw [ownK_len]; omega), ownK_low hO.own (Nat.lt_succ_self _)]; exact hx
      · (first | (focus (simp only [go_sem, ↓reduceIte, simprocAttr]; first | done | rfl)) | rfl)
      · rw [hsc]; exact hO.next hKl p rfl (by rw [sps_len])
    · have hsc2 : pstp (bf, x1, x2) p = (bf, min x1 p.1, max x2 p.2) := by unfold pstp; rw [if_neg hc]
      rw [hsc2] at hsc
      have e2 : max x2 p.2 = x2 := by omega
      repeat' (first | refine spD (fun _ => ?_) (fun _ => ?_) | refine spF (fun _ => ?_) (fun _ => ?_) | (apply gT; (exact rfl)) | (apply off; (exact rfl); (exact rfl)) | (apply condT; (exact rfl)) | (apply condF; (exact rfl)) | ((first | (apply stp0; (exact rfl); (exact rfl)) | (apply stpN0; (exact rfl)) | apply gT | apply condT | ((first | apply bodyQ_d0 | apply bodyQ_d1 | apply bodyQ_d2 | apply bodyQ_d3 | apply bodyQ_d4); (exact .inr rfl); (rw [Try.results102]))); (first | (focus (simp only [go_sem, ↓reduceIte, simprocAttr, hlt', t7, t0, t3, t5, t6, hvl, hpc, hx, wp, wx, hc, hng, hsu] <;> rfl)) | exact rfl); (first | (fail_if_success (show okD _ _ _ _ _ _ _ _ _)) | (first | exact okT | exact okN | exact okE rfl)); (first | (fail_if_success (show Bel _ _)) | (focus first | exact .val _ | (simp [oneOf, Bel_iff_tup, Bel_iff_agg, Bel_iff_rsl, Bel_iff_fn, Bel_iff_rptr, Bel_val]; done)))) | refine thenQ_n ?_ | refine thenQ_r ?_ | refine thenQ_e ?_ | refine blockQ_n ?_ | refine blockQ_r ?_ | refine blockQ_e ?_ | (apply blockQ_o; (exact rfl)) | refine Awp.seq ?_ | refine Awp.skip ?_ | refine Awp.block ?_ | refine reg (fun s => s == 3) ?_ | (apply drwL mixed (fun s => s == 3) (.of fun _ => false); (exact rfl); (kernel_rfl); (kernel_rfl); simp only [List.pop_toArray, List.dropLast_cons_cons, List.dropLast_singleton, List.map_cons, List.map_nil]) | refine fin ?_ | refine Awp.ret ?_ | refine Awp.exit ?_ | ((first | (apply off; (exact rfl)) | apply condF); (first | (focus (simp only [go_sem, ↓reduceIte, simprocAttr, hlt', t7, t0, t3, t5, t6, hvl, hpc, hx, wp, wx, hc, hng, hsu] <;> rfl)) | exact rfl)))
      all_goals first | contradiction | (exfalso; omega) | skip
      refine ⟨i + 1, ⟨hlt, ⟨?_, ?_, ?_, ?_⟩, hG.set (Nat.le_refl _) _, ?_, a, ?_, ?_⟩, Nat.sub_lt_sub_left hlt (Nat.lt_succ_self i)⟩
      · (first | (focus (simp only [go_sem, ↓reduceIte, simprocAttr, hsu]; first | done | rfl)) | rfl)
      · (first | (focus (simp only [go_sem, ↓reduceIte, simprocAttr, t0]; first | done | rfl)) | rfl)
      · (first | (focus (simp only [go_sem, ↓reduceIte, simprocAttr, t3]; first | done | rfl)) | rfl)
      · (first | (focus (simp only [go_sem, ↓reduceIte, simprocAttr, t6]; first | done | rfl)) | rfl)
      · rw [hsc]; exact (heldS hx).1 _
      · (first | (focus (simp only [go_sem, ↓reduceIte, simprocAttr, t5]; first | done | rfl)) | rfl)
      · rw [hsc]; exact hO.low (Nat.lt_succ_self _) _
  · have hie : i = s.length := Nat.le_antisymm hi (Nat.not_lt.1 hlt)
    subst hie
    have hOR : OwnR (H.length + 1) 70 2 16 K a (sps (stP s id s.length).1) := ⟨hO.own, sps_two _, by rw [sps_len]; omega⟩
    have hO2 := hO.next hKl (stP s id s.length).2 rfl rfl
    repeat' (first | refine spD (fun _ => ?_) (fun _ => ?_) | refine spF (fun _ => ?_) (fun _ => ?_) | (apply gT; (exact rfl)) | (apply off; (exact rfl); (exact rfl)) | (apply condT; (exact rfl)) | (apply condF; (exact rfl)) | ((first | (apply stp0; (exact rfl); (exact rfl)) | (apply stpN0; (exact rfl)) | apply gT | apply condT); (first | (focus (simp only [go_sem, ↓reduceIte, simprocAttr, Int.lt_irrefl, t7, t0, t3, t5, t6, hvl, hx] <;> rfl)) | exact rfl); (first | (fail_if_success (show okD _ _ _ _ _ _ _ _ _)) | (first | exact okT | exact okN | exact okE rfl))) | (apply stpApp; (exact rfl); (first | exact hOR); (iterate 2 (first | (focus (simp only [go_sem, ↓reduceIte, simprocAttr, Int.lt_irrefl, t7, t0, t3, t5, t6, hvl, hx] <;> rfl)) | rfl)); (first | rfl | (simp [AV.isCell]; done)); (first | rfl | (simp; done)); (first | exact ap39 | exact ap44 | exact ap46 | exact ap61 | exact ap63 | exact ap75 | exact ap86 | exact ap101 | exact ap102); (first | exact okT | exact okN | exact okE rfl)) | refine thenQ_n ?_ | refine thenQ_r ?_ | refine thenQ_e ?_ | refine blockQ_n ?_ | refine blockQ_r ?_ | refine blockQ_e ?_ | (apply blockQ_o; (exact rfl)) | refine Awp.seq ?_ | refine Awp.skip ?_ | refine Awp.block ?_ | refine reg (fun s => s == 3) ?_ | (apply drwE mixed (fun s => s == 3); (kernel_rfl)) | refine fin ?_ | refine Awp.ret ?_ | refine Awp.exit ?_ | ((first | (apply off; (exact rfl)) | apply condF); (first | (focus (simp only [go_sem, ↓reduceIte, simprocAttr, Int.lt_irrefl, t7, t0, t3, t5, t6, hvl, hx] <;> rfl)) | exact rfl)))
    all_goals first | contradiction | (exfalso; omega) | skip
    refine bodyQ_own (a := .msl K.length 0 ((stP s id s.length).1.length + 1)) (t := 70) (.inr rfl) (by rw [Try.results102]; simp only [go_sem, ↓reduceIte, simprocAttr, sps_len]) ((hO.own.grow (Nat.le_succ _) hG).app _) (hO2.own.low (Nat.le_succ _)) (sps_plain _)

end Go.Proofs.Ytlhchnnfgppneaa.Ab
