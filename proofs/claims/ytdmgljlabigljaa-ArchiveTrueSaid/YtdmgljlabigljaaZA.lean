/- Archive: seen, Find, Below. -/
import Derived.Test.YtdmgljlabigljaaTZ
namespace Go.Proofs.Ytdmgljlabigljaa.Ab
open Go Go.RowKit Go.Proofs
set_option linter.unusedSimpArgs false
set_option linter.unusedVariables false
attribute [local irreducible] Awp wpO thenQ blockQ bodyQ ACalls stepA

def seeB (q : Qy) (e : Ent) : Bool := !hidB q e

set_option maxRecDepth 8000 in
set_option maxHeartbeats 8000000 in
theorem seen_ok (H : Hp) {vb : Nat} {lo hi : Int} {q : Qy} {F : List Ent} (hv : H[vb]? = some (.cells [[.rsl (ents F) false, iv lo, iv hi, hidF q]] 70)) (hlen : F.length ≤ 1024) :
    ACalls Try.prog 25 [.mptr vb 0 0] H fun v K => Grow H K ∧ Own H.length 31 K v (ents (F.filter (seeB q))) := by
  have hFl := ents_len F
  have hvl := (List.getElem?_eq_some_iff.1 hv).1
  refine ACalls.of_body Try.func25 rfl (by kernel_rfl) (by rw [Try.ntmps25]; simp) ?_; rw [Try.ntmps25]
  repeat' (first | refine spD (fun _ => ?_) (fun _ => ?_) | refine spF (fun _ => ?_) (fun _ => ?_) | (apply gT; (exact rfl)) | (apply off; (exact rfl); (exact rfl)) | (apply condT; (exact rfl)) | (apply condF; (exact rfl)) | ((first | (apply stp0; (exact rfl); (exact rfl)) | (apply stpN0; (exact rfl)) | apply gT | apply condT | ((first | apply bodyQ_d0 | apply bodyQ_d1 | apply bodyQ_d2 | apply bodyQ_d3 | apply bodyQ_d4); (exact .inr rfl); (rw [Try.results25]))); (first | (focus (simp only [go_sem, ↓reduceIte, simprocAttr, hv, hFl] <;> rfl)) | exact rfl); (first | (fail_if_success (show okD _ _ _ _ _ _ _ _ _)) | (first | exact okT | exact okN | exact okE rfl)); (first | (fail_if_success (show Bel _ _)) | (focus first | exact .val _ | (simp [oneOf, Bel_iff_tup, Bel_iff_agg, Bel_iff_rsl, Bel_iff_fn, Bel_iff_rptr, Bel_val]; done)))) | refine thenQ_n ?_ | refine thenQ_r ?_ | refine thenQ_e ?_ | refine blockQ_n ?_ | refine blockQ_r ?_ | refine blockQ_e ?_ | (apply blockQ_o; (exact rfl)) | refine Awp.seq ?_ | refine Awp.skip ?_ | refine Awp.block ?_ | refine reg (fun s => s == 4) ?_ | (apply drwE mixed (fun s => s == 4); (kernel_rfl)) | refine fin ?_ | refine Awp.ret ?_ | refine Awp.exit ?_ | ((first | (apply off; (exact rfl)) | apply condF); (first | (focus (simp only [go_sem, ↓reduceIte, simprocAttr, hv, hFl] <;> rfl)) | exact rfl)))
  all_goals first | contradiction | skip
  refine Awp.mono (Q := fun e T' K => e = .exit 0 ∧ Grow H K ∧ ∃ a, T' 2 = a ∧ Own H.length 31 K a (ents (F.filter (seeB q)))) ?_ ?_
  · refine Awp.loop (ι := Nat) (fun i T' K => i ≤ F.length ∧ (T' 0 = .mptr vb 0 0 ∧ T' 8 = .rsl (ents F) false ∧ T' 9 = iv F.length ∧ T' 10 = iv i) ∧ Grow H K ∧ ∃ a, T' 2 = a ∧ Own H.length 31 K a (ents ((F.take i).filter (seeB q)))) (fun i => F.length - i) 0 ?_ ?_
    · exact ⟨Nat.zero_le _, ⟨by (first | (focus (simp only [go_sem, ↓reduceIte, simprocAttr]; first | done | rfl)) | rfl), by (first | (focus (simp only [go_sem, ↓reduceIte, simprocAttr, hv]; first | done | rfl)) | rfl), by (first | (focus (simp only [go_sem, ↓reduceIte, simprocAttr, hFl]; first | done | rfl)) | rfl), by (first | (focus (simp only [go_sem, ↓reduceIte, simprocAttr]; first | done | rfl)) | rfl)⟩, Grow.refl _, nilS, by (first | (focus (simp only [go_sem, ↓reduceIte, simprocAttr]; first | done | rfl)) | rfl), by rw [List.take_zero]; exact .nil⟩
    rintro i T K ⟨hi2, ⟨t0, t8, t9, t10⟩, hG, a, t2, hO⟩
    by_cases hil : i < F.length
    · obtain ⟨e, he⟩ := nth hil
      have hec := ents_at he
      have hw := wsucc hil (show F.length ≤ maxLen by simp only [maxLen]; omega)
      have hil2 : (i : Int) < F.length := Int.ofNat_lt.2 hil
      have hi0 : (0 : Int) ≤ i := by omega
      have htk : F.take (i + 1) = F.take i ++ [e] := by rw [List.take_add_one, he]; rfl
      repeat' ((fail_if_success (apply stopR (id := 4))); (fail_if_success (apply stopS (id := 4))); first | refine spD (fun _ => ?_) (fun _ => ?_) | refine spF (fun _ => ?_) (fun _ => ?_) | (apply gT; (exact rfl)) | (apply off; (exact rfl); (exact rfl)) | (apply condT; (exact rfl)) | (apply condF; (exact rfl)) | ((first | (apply stp0; (exact rfl); (exact rfl)) | (apply stpN0; (exact rfl)) | apply gT | apply condT | ((first | apply bodyQ_d0 | apply bodyQ_d1 | apply bodyQ_d2 | apply bodyQ_d3 | apply bodyQ_d4); (exact .inr rfl); (rw [Try.results25]))); (first | (focus (simp only [go_sem, ↓reduceIte, simprocAttr, t8, t9, t10, hFl, hec, hil2, hi0, Int.toNat_natCast] <;> rfl)) | exact rfl); (first | (fail_if_success (show okD _ _ _ _ _ _ _ _ _)) | (first | exact okT | exact okN | exact okE rfl)); (first | (fail_if_success (show Bel _ _)) | (focus first | exact .val _ | (simp [oneOf, Bel_iff_tup, Bel_iff_agg, Bel_iff_rsl, Bel_iff_fn, Bel_iff_rptr, Bel_val]; done)))) | refine thenQ_n ?_ | refine thenQ_r ?_ | refine thenQ_e ?_ | refine blockQ_n ?_ | refine blockQ_r ?_ | refine blockQ_e ?_ | (apply blockQ_o; (exact rfl)) | refine Awp.seq ?_ | refine Awp.skip ?_ | refine Awp.block ?_ | refine reg (fun s => s == 4) ?_ | (apply drwE mixed (fun s => s == 4); (kernel_rfl)) | refine fin ?_ | refine Awp.ret ?_ | refine Awp.exit ?_ | ((first | (apply off; (exact rfl)) | apply condF); (first | (focus (simp only [go_sem, ↓reduceIte, simprocAttr, t8, t9, t10, hFl, hec, hil2, hi0, Int.toNat_natCast] <;> rfl)) | exact rfl)))
      all_goals first | contradiction | skip
      refine Awp.withT (fun T' => T' 0 = .mptr vb 0 0 ∧ T' 2 = a ∧ T' 8 = .rsl (ents F) false ∧ T' 9 = iv F.length ∧ T' 10 = iv i ∧ T' 4 = .mptr K.length 0 0) ⟨by (first | (focus (simp only [go_sem, ↓reduceIte, simprocAttr, t0]; first | done | rfl)) | rfl), by (first | (focus (simp only [go_sem, ↓reduceIte, simprocAttr, t2]; first | done | rfl)) | rfl), by (first | (focus (simp only [go_sem, ↓reduceIte, simprocAttr, t8]; first | done | rfl)) | rfl), by (first | (focus (simp only [go_sem, ↓reduceIte, simprocAttr, t9]; first | done | rfl)) | rfl), by (first | (focus (simp only [go_sem, ↓reduceIte, simprocAttr, t10]; first | done | rfl)) | rfl), by (first | (focus (simp only [go_sem, ↓reduceIte, simprocAttr]; first | done | rfl)) | rfl)⟩ ?_
      clear t0 t2 t8 t9 t10 T
      rintro T ⟨t0, t2, t8, t9, t10, t4⟩
      have a4 := get_new K (AObj.cells [[iv e.series, iv e.time, iv e.version, iv e.arrived, iv e.owner, iv e.free, iv e.lo, iv e.hi, .val (.string e.cause)]] 31)
      have aG := hG.app [AObj.cells [[iv e.series, iv e.time, iv e.version, iv e.arrived, iv e.owner, iv e.free, iv e.lo, iv e.hi, .val (.string e.cause)]] 31]
      have aO := hO.app [AObj.cells [[iv e.series, iv e.time, iv e.version, iv e.arrived, iv e.owner, iv e.free, iv e.lo, iv e.hi, .val (.string e.cause)]] 31]
      have aL : H.length ≤ (K ++ [AObj.cells [[iv e.series, iv e.time, iv e.version, iv e.arrived, iv e.owner, iv e.free, iv e.lo, iv e.hi, .val (.string e.cause)]] 31]).length := aG.len
      generalize K ++ [AObj.cells [[iv e.series, iv e.time, iv e.version, iv e.arrived, iv e.owner, iv e.free, iv e.lo, iv e.hi, .val (.string e.cause)]] 31] = K1 at *
      have av := aG.get hv
      have hh := fun H => hid_ok H q e
      have hfl : ((F.take i).filter (seeB q)).length ≤ 1024 := Nat.le_trans (List.length_filter_le _ _) (by rw [List.length_take]; omega)
      cases hb : hidB q e with
      | true =>
        rw [hb] at hh
        have e1 : (F.take (i + 1)).filter (seeB q) = (F.take i).filter (seeB q) := by rw [htk]; exact filter_app_no (by unfold seeB; rw [hb]; rfl)
        repeat' (first | refine spD (fun _ => ?_) (fun _ => ?_) | refine spF (fun _ => ?_) (fun _ => ?_) | (apply gT; (exact rfl)) | (apply off; (exact rfl); (exact rfl)) | (apply condT; (exact rfl)) | (apply condF; (exact rfl)) | ((first | (apply stp0; (exact rfl); (exact rfl)) | (apply stpN0; (exact rfl)) | apply gT | apply condT | ((first | apply bodyQ_d0 | apply bodyQ_d1 | apply bodyQ_d2 | apply bodyQ_d3 | apply bodyQ_d4); (exact .inr rfl); (rw [Try.results25]))); (first | (focus (simp only [go_sem, ↓reduceIte, simprocAttr, t0, t4, t8, t9, t10, av, a4, hw] <;> rfl)) | exact rfl); (first | (fail_if_success (show okD _ _ _ _ _ _ _ _ _)) | (first | exact okT | exact okN | exact okE rfl)); (first | (fail_if_success (show Bel _ _)) | (focus first | exact .val _ | (simp [oneOf, Bel_iff_tup, Bel_iff_agg, Bel_iff_rsl, Bel_iff_fn, Bel_iff_rptr, Bel_val]; done)))) | (apply calTo0; (exact rfl); (iterate 2 (simp only [go_sem, ↓reduceIte, simprocAttr, t0, t4, t8, t9, t10, av, a4, hw]; rfl)); (first | exact hh _); (first | exact okT | exact okN | exact okE rfl)) | refine thenQ_n ?_ | refine thenQ_r ?_ | refine thenQ_e ?_ | refine blockQ_n ?_ | refine blockQ_r ?_ | refine blockQ_e ?_ | (apply blockQ_o; (exact rfl)) | refine Awp.seq ?_ | refine Awp.skip ?_ | refine Awp.block ?_ | refine reg (fun s => s == 4) ?_ | (apply drwE mixed (fun s => s == 4); (kernel_rfl)) | refine fin ?_ | refine Awp.ret ?_ | refine Awp.exit ?_ | ((first | (apply off; (exact rfl)) | apply condF); (first | (focus (simp only [go_sem, ↓reduceIte, simprocAttr, t0, t4, t8, t9, t10, av, a4, hw] <;> rfl)) | exact rfl)))
        all_goals first | contradiction | skip
        exact ⟨i + 1, ⟨by omega, ⟨by (first | (focus (simp only [go_sem, ↓reduceIte, simprocAttr, t0]; first | done | rfl)) | rfl), by (first | (focus (simp only [go_sem, ↓reduceIte, simprocAttr, t8]; first | done | rfl)) | rfl), by (first | (focus (simp only [go_sem, ↓reduceIte, simprocAttr, t9]; first | done | rfl)) | rfl), by (first | (focus (simp only [go_sem, ↓reduceIte, simprocAttr]; first | done | rfl)) | rfl)⟩, aG, a, by (first | (focus (simp only [go_sem, ↓reduceIte, simprocAttr, t2]; first | done | rfl)) | rfl), by rw [e1]; exact aO⟩, by omega⟩
      | false =>
        rw [hb] at hh
        have e1 : (F.take (i + 1)).filter (seeB q) = (F.take i).filter (seeB q) ++ [e] := by rw [htk]; exact filter_app_yes (by unfold seeB; rw [hb]; rfl)
        have hOR : OwnR H.length 31 9 80 K1 a (ents ((F.take i).filter (seeB q))) := ⟨aO, ents_nine _, by rw [ents_len]; omega⟩
        have hea := ents_app ((F.take i).filter (seeB q)) e
        rw [← e1] at hea
        repeat' (first | refine spD (fun _ => ?_) (fun _ => ?_) | refine spF (fun _ => ?_) (fun _ => ?_) | (apply gT; (exact rfl)) | (apply off; (exact rfl); (exact rfl)) | (apply condT; (exact rfl)) | (apply condF; (exact rfl)) | ((first | (apply stp0; (exact rfl); (exact rfl)) | (apply stpN0; (exact rfl)) | apply gT | apply condT | ((first | apply bodyQ_d0 | apply bodyQ_d1 | apply bodyQ_d2 | apply bodyQ_d3 | apply bodyQ_d4); (exact .inr rfl); (rw [Try.results25]))); (first | (focus (simp only [go_sem, ↓reduceIte, simprocAttr, t0, t2, t4, t8, t9, t10, av, a4, hw] <;> rfl)) | exact rfl); (first | (fail_if_success (show okD _ _ _ _ _ _ _ _ _)) | (first | exact okT | exact okN | exact okE rfl)); (first | (fail_if_success (show Bel _ _)) | (focus first | exact .val _ | (simp [oneOf, Bel_iff_tup, Bel_iff_agg, Bel_iff_rsl, Bel_iff_fn, Bel_iff_rptr, Bel_val]; done)))) | (apply stpApp; (exact rfl); (first | exact hOR); (iterate 2 (first | (focus (simp only [go_sem, ↓reduceIte, simprocAttr, t0, t2, t4, t8, t9, t10, av, a4, hw] <;> rfl)) | rfl)); (first | rfl | (simp [AV.isCell]; done)); (first | rfl | (simp; done)); (first | exact ap22 | exact ap23 | exact ap55 | exact ap79 | exact ap83 | exact ap96 | exact ap99); (first | exact okT | exact okN | exact okE rfl)) | (apply calTo0; (exact rfl); (iterate 2 (simp only [go_sem, ↓reduceIte, simprocAttr, t0, t2, t4, t8, t9, t10, av, a4, hw]; rfl)); (first | exact hh _); (first | exact okT | exact okN | exact okE rfl)) | refine thenQ_n ?_ | refine thenQ_r ?_ | refine thenQ_e ?_ | refine blockQ_n ?_ | refine blockQ_r ?_ | refine blockQ_e ?_ | (apply blockQ_o; (exact rfl)) | refine Awp.seq ?_ | refine Awp.skip ?_ | refine Awp.block ?_ | refine reg (fun s => s == 4) ?_ | (apply drwE mixed (fun s => s == 4); (kernel_rfl)) | refine fin ?_ | refine Awp.ret ?_ | refine Awp.exit ?_ | ((first | (apply off; (exact rfl)) | apply condF); (first | (focus (simp only [go_sem, ↓reduceIte, simprocAttr, t0, t2, t4, t8, t9, t10, av, a4, hw] <;> rfl)) | exact rfl)))
        all_goals first | contradiction | skip
        have hO4 := aO.next aL [iv e.series, iv e.time, iv e.version, iv e.arrived, iv e.owner, iv e.free, iv e.lo, iv e.hi, .val (.string e.cause)] rfl rfl
        rw [hea] at hO4
        refine ⟨i + 1, ⟨by omega, ⟨by (first | (focus (simp only [go_sem, ↓reduceIte, simprocAttr, t0]; first | done | rfl)) | rfl), by (first | (focus (simp only [go_sem, ↓reduceIte, simprocAttr, t8]; first | done | rfl)) | rfl), by (first | (focus (simp only [go_sem, ↓reduceIte, simprocAttr, t9]; first | done | rfl)) | rfl), by (first | (focus (simp only [go_sem, ↓reduceIte, simprocAttr]; first | done | rfl)) | rfl)⟩, (aO.grow (Nat.le_refl _) aG).app _, _, by (first | (focus (simp only [go_sem, ↓reduceIte, simprocAttr]; first | done | rfl)) | rfl), ?_⟩, by omega⟩
        rw [hea]
        exact hO4
    · have hieq : i = F.length := by omega
      have hil2 : ¬ (i : Int) < F.length := by omega
      rw [hieq, List.take_length] at hO
      repeat' (first | refine spD (fun _ => ?_) (fun _ => ?_) | refine spF (fun _ => ?_) (fun _ => ?_) | (apply gT; (exact rfl)) | (apply off; (exact rfl); (exact rfl)) | (apply condT; (exact rfl)) | (apply condF; (exact rfl)) | ((first | (apply stp0; (exact rfl); (exact rfl)) | (apply stpN0; (exact rfl)) | apply gT | apply condT | ((first | apply bodyQ_d0 | apply bodyQ_d1 | apply bodyQ_d2 | apply bodyQ_d3 | apply bodyQ_d4); (exact .inr rfl); (rw [Try.results25]))); (first | (focus (simp only [go_sem, ↓reduceIte, simprocAttr, t9, t10, hil2] <;> rfl)) | exact rfl); (first | (fail_if_success (show okD _ _ _ _ _ _ _ _ _)) | (first | exact okT | exact okN | exact okE rfl)); (first | (fail_if_success (show Bel _ _)) | (focus first | exact .val _ | (simp [oneOf, Bel_iff_tup, Bel_iff_agg, Bel_iff_rsl, Bel_iff_fn, Bel_iff_rptr, Bel_val]; done)))) | refine thenQ_n ?_ | refine thenQ_r ?_ | refine thenQ_e ?_ | refine blockQ_n ?_ | refine blockQ_r ?_ | refine blockQ_e ?_ | (apply blockQ_o; (exact rfl)) | refine Awp.seq ?_ | refine Awp.skip ?_ | refine Awp.block ?_ | refine reg (fun s => s == 4) ?_ | (apply drwE mixed (fun s => s == 4); (kernel_rfl)) | refine fin ?_ | refine Awp.ret ?_ | refine Awp.exit ?_ | ((first | (apply off; (exact rfl)) | apply condF); (first | (focus (simp only [go_sem, ↓reduceIte, simprocAttr, t9, t10, hil2] <;> rfl)) | exact rfl)))
      all_goals first | contradiction | skip
      exact ⟨rfl, hG, a, by (first | (focus (simp only [go_sem, ↓reduceIte, simprocAttr, t2]; first | done | rfl)) | rfl), hO⟩
  rintro ex T K ⟨rfl, hG, a, t2, hO⟩
  repeat' (first | refine spD (fun _ => ?_) (fun _ => ?_) | refine spF (fun _ => ?_) (fun _ => ?_) | (apply gT; (exact rfl)) | (apply off; (exact rfl); (exact rfl)) | (apply condT; (exact rfl)) | (apply condF; (exact rfl)) | ((first | (apply stp0; (exact rfl); (exact rfl)) | (apply stpN0; (exact rfl)) | apply gT | apply condT); (first | (focus (simp only [go_sem, ↓reduceIte, simprocAttr, t2] <;> rfl)) | exact rfl); (first | (fail_if_success (show okD _ _ _ _ _ _ _ _ _)) | (first | exact okT | exact okN | exact okE rfl))) | refine thenQ_n ?_ | refine thenQ_r ?_ | refine thenQ_e ?_ | refine blockQ_n ?_ | refine blockQ_r ?_ | refine blockQ_e ?_ | (apply blockQ_o; (exact rfl)) | refine Awp.seq ?_ | refine Awp.skip ?_ | refine Awp.block ?_ | refine reg (fun s => s == 4) ?_ | (apply drwE mixed (fun s => s == 4); (kernel_rfl)) | refine fin ?_ | refine Awp.ret ?_ | refine Awp.exit ?_ | ((first | (apply off; (exact rfl)) | apply condF); (first | (focus (simp only [go_sem, ↓reduceIte, simprocAttr, t2] <;> rfl)) | exact rfl)))
  all_goals first | contradiction | skip
  exact bodyQ_mk (vs := [a]) (.inr rfl) (by rw [Try.results25]; first | (simp only [go_sem, ↓reduceIte, simprocAttr]; done) | (simp only [go_sem, ↓reduceIte, simprocAttr]; rfl)) (Vs.refl _ _ _) ⟨hG, hO⟩

/-- how many entries are hidden -/
def hidN (L : List Ent) (q : Qy) : Int := ((fndL L q).length : Int) - ((fndL L q).filter (seeB q)).length

set_option maxRecDepth 8000 in
set_option maxHeartbeats 8000000 in
theorem Find_ok (H : Hp) {p b : Nat} {S : List Ser} {L : List Ent} (hA : Arc H p b S L) (hlen : L.length ≤ 1024) (q : Qy) (hq : qOK S q) :
    ACalls Try.prog 12 [.mptr p 0 0, .agg q.cs] H fun v K => Grow H K ∧ ∃ a, v = .tup [a, iv (hidN L q), iv 0] := by
  have hl := look_ok H hA hlen q
  refine ACalls.of_body Try.func12 rfl (by kernel_rfl) (by rw [Try.ntmps12]; simp) ?_; rw [Try.ntmps12]
  repeat' (first | refine spD (fun _ => ?_) (fun _ => ?_) | refine spF (fun _ => ?_) (fun _ => ?_) | (apply gT; (exact rfl)) | (apply off; (exact rfl); (exact rfl)) | (apply condT; (exact rfl)) | (apply condF; (exact rfl)) | ((first | (apply stp0; (exact rfl); (exact rfl)) | (apply stpN0; (exact rfl)) | apply gT | apply condT | ((first | apply bodyQ_d0 | apply bodyQ_d1 | apply bodyQ_d2 | apply bodyQ_d3 | apply bodyQ_d4); (exact .inr rfl); (rw [Try.results12]))); (first | (focus (simp only [go_sem, ↓reduceIte, simprocAttr, Qy.cs] <;> rfl)) | exact rfl); (first | (fail_if_success (show okD _ _ _ _ _ _ _ _ _)) | (first | exact okT | exact okN | exact okE rfl)); (first | (fail_if_success (show Bel _ _)) | (focus first | exact .val _ | (simp [oneOf, Bel_iff_tup, Bel_iff_agg, Bel_iff_rsl, Bel_iff_fn, Bel_iff_rptr, Bel_val]; done)))) | refine thenQ_n ?_ | refine thenQ_r ?_ | refine thenQ_e ?_ | refine blockQ_n ?_ | refine blockQ_r ?_ | refine blockQ_e ?_ | (apply blockQ_o; (exact rfl)) | refine Awp.seq ?_ | refine Awp.skip ?_ | refine Awp.block ?_ | refine reg (fun s => false) ?_ | (apply drwE mixed (fun s => false); (kernel_rfl)) | refine fin ?_ | refine Awp.ret ?_ | refine Awp.exit ?_ | ((first | (apply off; (exact rfl)) | apply condF); (first | (focus (simp only [go_sem, ↓reduceIte, simprocAttr, Qy.cs] <;> rfl)) | exact rfl)))
  all_goals first | contradiction | skip
  refine cal rfl rfl rfl ?_ (show ACallV Try.prog (.fn (.func 23) []) [.mptr p 0 0, .agg q.cs] _ _ from hl) ?_
  · (first | (focus (simp only [go_sem, ↓reduceIte, simprocAttr, Qy.cs]; first | done | rfl)) | rfl)
  rintro v1 K ⟨hG, ⟨hq', rfl⟩ | ⟨_, s, vb, hs, rfl, hV⟩⟩
  · exact absurd hq hq'
  have hvc := hV.cell
  have hFl := ents_len (fndL L q)
  have hFle := Nat.le_trans (fndL_len L q) hlen
  have hse := seen_ok K hvc hFle
  repeat' (first | refine spD (fun _ => ?_) (fun _ => ?_) | refine spF (fun _ => ?_) (fun _ => ?_) | (apply gT; (exact rfl)) | (apply off; (exact rfl); (exact rfl)) | (apply condT; (exact rfl)) | (apply condF; (exact rfl)) | ((first | (apply stp0; (exact rfl); (exact rfl)) | (apply stpN0; (exact rfl)) | apply gT | apply condT | ((first | apply bodyQ_d0 | apply bodyQ_d1 | apply bodyQ_d2 | apply bodyQ_d3 | apply bodyQ_d4); (exact .inr rfl); (rw [Try.results12]))); (first | (focus (simp only [go_sem, ↓reduceIte, simprocAttr] <;> rfl)) | exact rfl); (first | (fail_if_success (show okD _ _ _ _ _ _ _ _ _)) | (first | exact okT | exact okN | exact okE rfl)); (first | (fail_if_success (show Bel _ _)) | (focus first | exact .val _ | (simp [oneOf, Bel_iff_tup, Bel_iff_agg, Bel_iff_rsl, Bel_iff_fn, Bel_iff_rptr, Bel_val]; done)))) | refine thenQ_n ?_ | refine thenQ_r ?_ | refine thenQ_e ?_ | refine blockQ_n ?_ | refine blockQ_r ?_ | refine blockQ_e ?_ | (apply blockQ_o; (exact rfl)) | refine Awp.seq ?_ | refine Awp.skip ?_ | refine Awp.block ?_ | refine reg (fun s => false) ?_ | (apply drwE mixed (fun s => false); (kernel_rfl)) | refine fin ?_ | refine Awp.ret ?_ | refine Awp.exit ?_ | ((first | (apply off; (exact rfl)) | apply condF); (first | (focus (simp only [go_sem, ↓reduceIte, simprocAttr] <;> rfl)) | exact rfl)))
  all_goals first | contradiction | skip
  refine cal rfl rfl rfl ?_ (show ACallV Try.prog (.fn (.func 25) []) [.mptr vb 0 0] _ _ from hse) ?_
  · (first | (focus (simp only [go_sem, ↓reduceIte, simprocAttr]; first | done | rfl)) | rfl)
  rintro v1 K2 ⟨hG2, hO⟩
  repeat' ((fail_if_success (apply stopR (id := 5))); (fail_if_success (apply stopS (id := 5))); first | refine spD (fun _ => ?_) (fun _ => ?_) | refine spF (fun _ => ?_) (fun _ => ?_) | (apply gT; (exact rfl)) | (apply off; (exact rfl); (exact rfl)) | (apply condT; (exact rfl)) | (apply condF; (exact rfl)) | ((first | (apply stp0; (exact rfl); (exact rfl)) | (apply stpN0; (exact rfl)) | apply gT | apply condT | ((first | apply bodyQ_d0 | apply bodyQ_d1 | apply bodyQ_d2 | apply bodyQ_d3 | apply bodyQ_d4); (exact .inr rfl); (rw [Try.results12]))); (first | (focus (simp only [go_sem, ↓reduceIte, simprocAttr] <;> rfl)) | exact rfl); (first | (fail_if_success (show okD _ _ _ _ _ _ _ _ _)) | (first | exact okT | exact okN | exact okE rfl)); (first | (fail_if_success (show Bel _ _)) | (focus first | exact .val _ | (simp [oneOf, Bel_iff_tup, Bel_iff_agg, Bel_iff_rsl, Bel_iff_fn, Bel_iff_rptr, Bel_val]; done)))) | refine thenQ_n ?_ | refine thenQ_r ?_ | refine thenQ_e ?_ | refine blockQ_n ?_ | refine blockQ_r ?_ | refine blockQ_e ?_ | (apply blockQ_o; (exact rfl)) | refine Awp.seq ?_ | refine Awp.skip ?_ | refine Awp.block ?_ | refine reg (fun s => false) ?_ | (apply drwE mixed (fun s => false); (kernel_rfl)) | refine fin ?_ | refine Awp.ret ?_ | refine Awp.exit ?_ | ((first | (apply off; (exact rfl)) | apply condF); (first | (focus (simp only [go_sem, ↓reduceIte, simprocAttr] <;> rfl)) | exact rfl)))
  all_goals first | contradiction | skip
  refine Awp.withT (fun T' => T' 7 = .mptr vb 0 0 ∧ T' 9 = v1) ⟨by (first | (focus (simp only [go_sem, ↓reduceIte, simprocAttr]; first | done | rfl)) | rfl), by (first | (focus (simp only [go_sem, ↓reduceIte, simprocAttr]; first | done | rfl)) | rfl)⟩ ?_
  rintro T ⟨t7, t9⟩
  refine Awp.frzOwn 9 hO t9 ?_
  have u7 : upd T 9 (.rsl (ents ((fndL L q).filter (seeB q))) false) 7 = .mptr vb 0 0 := by simpa [upd] using t7
  have u9 : upd T 9 (.rsl (ents ((fndL L q).filter (seeB q))) false) 9 = .rsl (ents ((fndL L q).filter (seeB q))) false := by simp [upd]
  have hvl := (List.getElem?_eq_some_iff.1 hvc).1
  have c1 := (ownK_low hO hvl).trans (hG2.get hvc)
  have hG3 := hG.trans (hO.grow (Nat.le_refl _) hG2)
  generalize upd T 9 (.rsl (ents ((fndL L q).filter (seeB q))) false) = T1 at *
  generalize ownK K2 v1 = K3 at *
  have hsl := ents_len ((fndL L q).filter (seeB q))
  have hfl := List.length_filter_le (seeB q) (fndL L q)
  have hw : IntKind.i64.wrap (((fndL L q).length : Int) - ((fndL L q).filter (seeB q)).length) = hidN L q := w64 (by omega) (by omega)
  generalize hidN L q = hn at *
  repeat' (first | refine spD (fun _ => ?_) (fun _ => ?_) | refine spF (fun _ => ?_) (fun _ => ?_) | (apply gT; (exact rfl)) | (apply off; (exact rfl); (exact rfl)) | (apply condT; (exact rfl)) | (apply condF; (exact rfl)) | ((first | (apply stp0; (exact rfl); (exact rfl)) | (apply stpN0; (exact rfl)) | apply gT | apply condT); (first | (focus (simp only [go_sem, ↓reduceIte, simprocAttr, u7, u9, c1, hFl, hsl, hw] <;> rfl)) | exact rfl); (first | (fail_if_success (show okD _ _ _ _ _ _ _ _ _)) | (first | exact okT | exact okN | exact okE rfl))) | refine thenQ_n ?_ | refine thenQ_r ?_ | refine thenQ_e ?_ | refine blockQ_n ?_ | refine blockQ_r ?_ | refine blockQ_e ?_ | (apply blockQ_o; (exact rfl)) | refine Awp.seq ?_ | refine Awp.skip ?_ | refine Awp.block ?_ | refine reg (fun s => false) ?_ | (apply drwE mixed (fun s => false); (kernel_rfl)) | refine fin ?_ | refine Awp.ret ?_ | refine Awp.exit ?_ | ((first | (apply off; (exact rfl)) | apply condF); (first | (focus (simp only [go_sem, ↓reduceIte, simprocAttr, u7, u9, c1, hFl, hsl, hw] <;> rfl)) | exact rfl)))
  all_goals first | contradiction | skip
  exact bodyQ_mk (vs := [.rsl (ents ((fndL L q).filter (seeB q))) false, iv hn, iv 0]) (.inr rfl) (by rw [Try.results12]; first | (simp only [go_sem, ↓reduceIte, simprocAttr]; done) | (simp only [go_sem, ↓reduceIte, simprocAttr]; rfl)) (Vs.refl _ _ _) ⟨hG3, _, rfl⟩

def belF (S : List Ser) (L : List Ent) (q : Qy) (limit : Int) : Int × Int :=
  if (meanF S L q).1 ≠ 0 then (0, (meanF S L q).1) else if (meanF S L q).2.2 < limit then (2, 0) else if (meanF S L q).2.1 ≥ limit then (0, 0) else (1, 0)

set_option maxRecDepth 8000 in
set_option maxHeartbeats 8000000 in
theorem Below_ok (H : Hp) {p b : Nat} {S : List Ser} {L : List Ent} (hA : Arc H p b S L) (hB : Bnd S L) (hlen : L.length ≤ 1024) (q : Qy) (limit : Int) :
    ACalls Try.prog 11 [.mptr p 0 0, .agg q.cs, iv limit] H fun v K => Grow H K ∧ v = .tup [iv (belF S L q limit).1, iv (belF S L q limit).2] := by
  have hm := Mean_ok H hA hB hlen q
  unfold belF
  generalize meanF S L q = M at *
  obtain ⟨mc, ml, mh⟩ := M
  simp only at *
  refine ACalls.of_body Try.func11 rfl (by kernel_rfl) (by rw [Try.ntmps11]; simp) ?_; rw [Try.ntmps11]
  repeat' (first | refine spD (fun _ => ?_) (fun _ => ?_) | refine spF (fun _ => ?_) (fun _ => ?_) | (apply gT; (exact rfl)) | (apply off; (exact rfl); (exact rfl)) | (apply condT; (exact rfl)) | (apply condF; (exact rfl)) | ((first | (apply stp0; (exact rfl); (exact rfl)) | (apply stpN0; (exact rfl)) | apply gT | apply condT | ((first | apply bodyQ_d0 | apply bodyQ_d1 | apply bodyQ_d2 | apply bodyQ_d3 | apply bodyQ_d4); (exact .inr rfl); (rw [Try.results11]))); (first | (focus (simp only [go_sem, ↓reduceIte, simprocAttr, Qy.cs] <;> rfl)) | exact rfl); (first | (fail_if_success (show okD _ _ _ _ _ _ _ _ _)) | (first | exact okT | exact okN | exact okE rfl)); (first | (fail_if_success (show Bel _ _)) | (focus first | exact .val _ | (simp [oneOf, Bel_iff_tup, Bel_iff_agg, Bel_iff_rsl, Bel_iff_fn, Bel_iff_rptr, Bel_val]; done)))) | refine thenQ_n ?_ | refine thenQ_r ?_ | refine thenQ_e ?_ | refine blockQ_n ?_ | refine blockQ_r ?_ | refine blockQ_e ?_ | (apply blockQ_o; (exact rfl)) | refine Awp.seq ?_ | refine Awp.skip ?_ | refine Awp.block ?_ | refine reg (fun s => s == 8) ?_ | (apply drwE mixed (fun s => s == 8); (kernel_rfl)) | refine fin ?_ | refine Awp.ret ?_ | refine Awp.exit ?_ | ((first | (apply off; (exact rfl)) | apply condF); (first | (focus (simp only [go_sem, ↓reduceIte, simprocAttr, Qy.cs] <;> rfl)) | exact rfl)))
  all_goals first | contradiction | skip
  refine cal rfl rfl rfl ?_ (show ACallV Try.prog (.fn (.func 10) []) [.mptr p 0 0, .agg q.cs] _ _ from hm) ?_
  · (first | (focus (simp only [go_sem, ↓reduceIte, simprocAttr, Qy.cs]; first | done | rfl)) | rfl)
  rintro v1 K ⟨hG, rfl⟩
  have a8 := get_new K (AObj.cells [[iv ml, iv mh]] 29)
  have hG2 := hG.app [AObj.cells [[iv ml, iv mh]] 29]
  by_cases h0 : mc = 0
  · subst h0
    rw [if_neg (by simp)]
    by_cases h1 : mh < limit
    · rw [if_pos h1]
      repeat' (first | refine spD (fun _ => ?_) (fun _ => ?_) | refine spF (fun _ => ?_) (fun _ => ?_) | (apply gT; (exact rfl)) | (apply off; (exact rfl); (exact rfl)) | (apply condT; (exact rfl)) | (apply condF; (exact rfl)) | ((first | (apply stp0; (exact rfl); (exact rfl)) | (apply stpN0; (exact rfl)) | apply gT | apply condT); (first | (focus (simp only [go_sem, ↓reduceIte, simprocAttr, a8, h1] <;> rfl)) | exact rfl); (first | (fail_if_success (show okD _ _ _ _ _ _ _ _ _)) | (first | exact okT | exact okN | exact okE rfl))) | refine thenQ_n ?_ | refine thenQ_r ?_ | refine thenQ_e ?_ | refine blockQ_n ?_ | refine blockQ_r ?_ | refine blockQ_e ?_ | (apply blockQ_o; (exact rfl)) | refine Awp.seq ?_ | refine Awp.skip ?_ | refine Awp.block ?_ | refine reg (fun s => s == 8) ?_ | (apply drwE mixed (fun s => s == 8); (kernel_rfl)) | refine fin ?_ | refine Awp.ret ?_ | refine Awp.exit ?_ | ((first | (apply off; (exact rfl)) | apply condF); (first | (focus (simp only [go_sem, ↓reduceIte, simprocAttr, a8, h1] <;> rfl)) | exact rfl)))
      all_goals first | contradiction | skip
      exact bodyQ_mk (vs := [iv 2, iv 0]) (.inr rfl) (by rw [Try.results11]; first | (simp only [go_sem, ↓reduceIte, simprocAttr]; done) | (simp only [go_sem, ↓reduceIte, simprocAttr]; rfl)) (Vs.refl _ _ _) ⟨hG2, rfl⟩
    · rw [if_neg h1]
      by_cases h2 : ml ≥ limit
      · rw [if_pos h2]
        repeat' (first | refine spD (fun _ => ?_) (fun _ => ?_) | refine spF (fun _ => ?_) (fun _ => ?_) | (apply gT; (exact rfl)) | (apply off; (exact rfl); (exact rfl)) | (apply condT; (exact rfl)) | (apply condF; (exact rfl)) | ((first | (apply stp0; (exact rfl); (exact rfl)) | (apply stpN0; (exact rfl)) | apply gT | apply condT); (first | (focus (simp only [go_sem, ↓reduceIte, simprocAttr, a8, h1, h2] <;> rfl)) | exact rfl); (first | (fail_if_success (show okD _ _ _ _ _ _ _ _ _)) | (first | exact okT | exact okN | exact okE rfl))) | refine thenQ_n ?_ | refine thenQ_r ?_ | refine thenQ_e ?_ | refine blockQ_n ?_ | refine blockQ_r ?_ | refine blockQ_e ?_ | (apply blockQ_o; (exact rfl)) | refine Awp.seq ?_ | refine Awp.skip ?_ | refine Awp.block ?_ | refine reg (fun s => s == 8) ?_ | (apply drwE mixed (fun s => s == 8); (kernel_rfl)) | refine fin ?_ | refine Awp.ret ?_ | refine Awp.exit ?_ | ((first | (apply off; (exact rfl)) | apply condF); (first | (focus (simp only [go_sem, ↓reduceIte, simprocAttr, a8, h1, h2] <;> rfl)) | exact rfl)))
        all_goals first | contradiction | skip
        exact bodyQ_mk (vs := [iv 0, iv 0]) (.inr rfl) (by rw [Try.results11]; first | (simp only [go_sem, ↓reduceIte, simprocAttr]; done) | (simp only [go_sem, ↓reduceIte, simprocAttr]; rfl)) (Vs.refl _ _ _) ⟨hG2, rfl⟩
      · rw [if_neg h2]
        repeat' (first | refine spD (fun _ => ?_) (fun _ => ?_) | refine spF (fun _ => ?_) (fun _ => ?_) | (apply gT; (exact rfl)) | (apply off; (exact rfl); (exact rfl)) | (apply condT; (exact rfl)) | (apply condF; (exact rfl)) | ((first | (apply stp0; (exact rfl); (exact rfl)) | (apply stpN0; (exact rfl)) | apply gT | apply condT); (first | (focus (simp only [go_sem, ↓reduceIte, simprocAttr, a8, h1, h2] <;> rfl)) | exact rfl); (first | (fail_if_success (show okD _ _ _ _ _ _ _ _ _)) | (first | exact okT | exact okN | exact okE rfl))) | refine thenQ_n ?_ | refine thenQ_r ?_ | refine thenQ_e ?_ | refine blockQ_n ?_ | refine blockQ_r ?_ | refine blockQ_e ?_ | (apply blockQ_o; (exact rfl)) | refine Awp.seq ?_ | refine Awp.skip ?_ | refine Awp.block ?_ | refine reg (fun s => s == 8) ?_ | (apply drwE mixed (fun s => s == 8); (kernel_rfl)) | refine fin ?_ | refine Awp.ret ?_ | refine Awp.exit ?_ | ((first | (apply off; (exact rfl)) | apply condF); (first | (focus (simp only [go_sem, ↓reduceIte, simprocAttr, a8, h1, h2] <;> rfl)) | exact rfl)))
        all_goals first | contradiction | skip
        exact bodyQ_mk (vs := [iv 1, iv 0]) (.inr rfl) (by rw [Try.results11]; first | (simp only [go_sem, ↓reduceIte, simprocAttr]; done) | (simp only [go_sem, ↓reduceIte, simprocAttr]; rfl)) (Vs.refl _ _ _) ⟨hG2, rfl⟩
  · rw [if_pos h0]
    repeat' (first | refine spD (fun _ => ?_) (fun _ => ?_) | refine spF (fun _ => ?_) (fun _ => ?_) | (apply gT; (exact rfl)) | (apply off; (exact rfl); (exact rfl)) | (apply condT; (exact rfl)) | (apply condF; (exact rfl)) | ((first | (apply stp0; (exact rfl); (exact rfl)) | (apply stpN0; (exact rfl)) | apply gT | apply condT); (first | (focus (simp only [go_sem, ↓reduceIte, simprocAttr, a8, h0] <;> rfl)) | exact rfl); (first | (fail_if_success (show okD _ _ _ _ _ _ _ _ _)) | (first | exact okT | exact okN | exact okE rfl))) | refine thenQ_n ?_ | refine thenQ_r ?_ | refine thenQ_e ?_ | refine blockQ_n ?_ | refine blockQ_r ?_ | refine blockQ_e ?_ | (apply blockQ_o; (exact rfl)) | refine Awp.seq ?_ | refine Awp.skip ?_ | refine Awp.block ?_ | refine reg (fun s => s == 8) ?_ | (apply drwE mixed (fun s => s == 8); (kernel_rfl)) | refine fin ?_ | refine Awp.ret ?_ | refine Awp.exit ?_ | ((first | (apply off; (exact rfl)) | apply condF); (first | (focus (simp only [go_sem, ↓reduceIte, simprocAttr, a8, h0] <;> rfl)) | exact rfl)))
    all_goals first | contradiction | skip
    exact bodyQ_mk (vs := [iv 0, iv mc]) (.inr rfl) (by rw [Try.results11]; first | (simp only [go_sem, ↓reduceIte, simprocAttr]; done) | (simp only [go_sem, ↓reduceIte, simprocAttr]; rfl)) (Vs.refl _ _ _) ⟨hG2, rfl⟩

end Go.Proofs.Ytdmgljlabigljaa.Ab
