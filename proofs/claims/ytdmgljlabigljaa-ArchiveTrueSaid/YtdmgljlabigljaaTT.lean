/- Archive: Entries; Counts. -/
import Derived.Test.YtdmgljlabigljaaTS
namespace Go.Proofs.Ytdmgljlabigljaa.Ab
open Go Go.RowKit Go.Proofs
set_option linter.unusedSimpArgs false
set_option linter.unusedVariables false
attribute [local irreducible] Awp wpO thenQ blockQ bodyQ ACalls stepA

set_option maxRecDepth 8000 in
set_option maxHeartbeats 8000000 in
theorem appendSeq_ok (H : Hp) {p b : Nat} {S : List Ser} {L : List Ent} (hA : Arc H p b S L) (hlen : L.length ≤ 1024) :
    ACalls Try.prog 33 [nilS, .fn (.func 34) [.rptr [.mptr p 0 0] 0]] H fun v K => Own H.length 31 K v (ents L) ∧ Grow H K := by
  refine ACalls.of_body Try.func33 rfl (by kernel_rfl) (by rw [Try.ntmps33]; simp) ?_; rw [Try.ntmps33]
  repeat' (first | refine spD (fun _ => ?_) (fun _ => ?_) | refine spF (fun _ => ?_) (fun _ => ?_) | (apply gT; (exact rfl)) | (apply off; (exact rfl); (exact rfl)) | (apply condT; (exact rfl)) | (apply condF; (exact rfl)) | ((first | (apply stp0; (exact rfl); (exact rfl)) | (apply stpN0; (exact rfl)) | apply gT | apply condT | ((first | apply bodyQ_d0 | apply bodyQ_d1 | apply bodyQ_d2 | apply bodyQ_d3 | apply bodyQ_d4); (exact .inr rfl); (rw [Try.results33]))); (first | (focus (simp only [go_sem, ↓reduceIte, simprocAttr] <;> rfl)) | exact rfl); (first | (fail_if_success (show okD _ _ _ _ _ _ _ _ _)) | (first | exact okT | exact okN | exact okE rfl)); (first | (fail_if_success (show Bel _ _)) | (focus first | exact .val _ | (simp [oneOf, Bel_iff_tup, Bel_iff_agg, Bel_iff_rsl, Bel_iff_fn, Bel_iff_rptr, Bel_val]; done)))) | refine thenQ_n ?_ | refine thenQ_r ?_ | refine thenQ_e ?_ | refine blockQ_n ?_ | refine blockQ_r ?_ | refine blockQ_e ?_ | (apply blockQ_o; (exact rfl)) | refine Awp.seq ?_ | refine Awp.skip ?_ | refine Awp.block ?_ | refine reg (fun s => s == 2 || s == 5) ?_ | (apply drwE mixed (fun s => s == 2 || s == 5); (kernel_rfl)) | refine fin ?_ | refine Awp.ret ?_ | refine Awp.exit ?_ | ((first | (apply off; (exact rfl)) | apply condF); (first | (focus (simp only [go_sem, ↓reduceIte, simprocAttr] <;> rfl)) | exact rfl)))
  all_goals first | contradiction | skip
  obtain ⟨A, hAe⟩ : ∃ A : Hp, H ++ [AObj.cells [[nilS]] 23] = A := ⟨_, rfl⟩
  rw [hAe]
  have hAl : A.length = H.length + 1 := by rw [← hAe]; simp
  have hA0 : A[H.length]? = some (.cells [[nilS]] 23) := by rw [← hAe]; simp
  have hAG : Grow H A := by rw [← hAe]; exact (Grow.refl H).app _
  refine Awp.withT (fun T' => T' 2 = .mptr H.length 0 0 ∧ T' 6 = .fn (.func 34) [.rptr [.mptr p 0 0] 0]) ⟨by (first | (focus (simp only [go_sem, ↓reduceIte, simprocAttr]; first | done | rfl)) | rfl), by (first | (focus (simp only [go_sem, ↓reduceIte, simprocAttr]; first | done | rfl)) | rfl)⟩ ?_
  rintro T ⟨t2, t6⟩
  refine overOrder (p := p) (b := b) (S := S) (L := L) hlen (by (first | (focus (simp only [go_sem, ↓reduceIte, simprocAttr, t6]; first | done | rfl)) | rfl)) (by decide) (fun j K => Grow H K ∧ ∃ a, K[H.length]? = some (.cells [[a]] 23) ∧ Own (H.length + 2) 31 K a (ents (L.take j))) (fun _ => False) (fun j K h => hA.grow h.1) ?_ (fun ob => ?_) ?_ ?_ ?_
  · rintro j K K' ⟨h1, a, h2, h3⟩ hG
    exact ⟨h1.trans hG, a, hG.get h2, h3.of hG⟩
  · exact ⟨hAG.app _, nilS, (held hA0).2.1 _, by rw [List.take_zero]; exact .nil⟩
  · rintro lp j e K he ⟨hG, a, hc, hO⟩ hlp
    rw [hAl] at hlp ⊢
    have hl := (List.getElem?_eq_some_iff.1 hlp).1
    simp only [Ent.av, Ent.cs]
    repeat' (first | refine spD (fun _ => ?_) (fun _ => ?_) | refine spF (fun _ => ?_) (fun _ => ?_) | (apply gT; (exact rfl)) | (apply off; (exact rfl); (exact rfl)) | (apply condT; (exact rfl)) | (apply condF; (exact rfl)) | ((first | (apply stp0; (exact rfl); (exact rfl)) | (apply stpN0; (exact rfl)) | apply gT | apply condT | ((first | apply bodyQ_d0 | apply bodyQ_d1 | apply bodyQ_d2 | apply bodyQ_d3 | apply bodyQ_d4); (exact .inr rfl); (rw [Try.results33]))); (first | (focus (simp only [go_sem, ↓reduceIte, simprocAttr] <;> rfl)) | exact rfl); (first | (fail_if_success (show okD _ _ _ _ _ _ _ _ _)) | (first | exact okT | exact okN | exact okE rfl)); (first | (fail_if_success (show Bel _ _)) | (focus first | exact .val _ | (simp [oneOf, Bel_iff_tup, Bel_iff_agg, Bel_iff_rsl, Bel_iff_fn, Bel_iff_rptr, Bel_val]; done)))) | refine thenQ_n ?_ | refine thenQ_r ?_ | refine thenQ_e ?_ | refine blockQ_n ?_ | refine blockQ_r ?_ | refine blockQ_e ?_ | (apply blockQ_o; (exact rfl)) | refine Awp.seq ?_ | refine Awp.skip ?_ | refine Awp.block ?_ | refine reg (fun s => s == 2 || s == 5) ?_ | (apply drwE mixed (fun s => s == 2 || s == 5); (kernel_rfl)) | refine fin ?_ | refine Awp.ret ?_ | refine Awp.exit ?_ | ((first | (apply off; (exact rfl)) | apply condF); (first | (focus (simp only [go_sem, ↓reduceIte, simprocAttr] <;> rfl)) | exact rfl)))
    all_goals first | contradiction | skip
    refine ⟨rfl, (held hlp).2.1 _, ?_⟩
    refine Awp.withT (fun T' => T' 2 = .mptr H.length 0 0 ∧ T' 5 = .mptr K.length 0 0) ⟨by (first | (focus (simp only [go_sem, ↓reduceIte, simprocAttr, t2]; first | done | rfl)) | rfl), by (first | (focus (simp only [go_sem, ↓reduceIte, simprocAttr]; first | done | rfl)) | rfl)⟩ ?_
    clear t2 t6 T
    rintro T ⟨t2, t5⟩
    have hx : ((K ++ [AObj.cells [[iv e.series, iv e.time, iv e.version, iv e.arrived, iv e.owner, iv e.free, iv e.lo, iv e.hi, .val (.string e.cause)]] 31]).set (H.length + 1) (lp .busy))[K.length]? = some (.cells [[iv e.series, iv e.time, iv e.version, iv e.arrived, iv e.owner, iv e.free, iv e.lo, iv e.hi, .val (.string e.cause)]] 31) := by
      rw [List.getElem?_set_ne (by omega)]; exact get_new _ _
    have hc1 : ((K ++ [AObj.cells [[iv e.series, iv e.time, iv e.version, iv e.arrived, iv e.owner, iv e.free, iv e.lo, iv e.hi, .val (.string e.cause)]] 31]).set (H.length + 1) (lp .busy))[H.length]? = some (.cells [[a]] 23) := by
      rw [List.getElem?_set_ne (by omega)]; exact (held hc).2.1 _
    have hlp1 : ((K ++ [AObj.cells [[iv e.series, iv e.time, iv e.version, iv e.arrived, iv e.owner, iv e.free, iv e.lo, iv e.hi, .val (.string e.cause)]] 31]).set (H.length + 1) (lp .busy))[H.length + 1]? = some (lp .busy) := List.getElem?_set_self (by rw [List.length_append]; omega)
    have hG1 : Grow H ((K ++ [AObj.cells [[iv e.series, iv e.time, iv e.version, iv e.arrived, iv e.owner, iv e.free, iv e.lo, iv e.hi, .val (.string e.cause)]] 31]).set (H.length + 1) (lp .busy)) := (hG.app _).set (by omega) _
    have hjl : (L.take j).length ≤ 1024 := by rw [List.length_take]; omega
    have hO1 : OwnR (H.length + 2) 31 9 80 ((K ++ [AObj.cells [[iv e.series, iv e.time, iv e.version, iv e.arrived, iv e.owner, iv e.free, iv e.lo, iv e.hi, .val (.string e.cause)]] 31]).set (H.length + 1) (lp .busy)) a (ents (L.take j)) := ⟨(hO.app _).setLow (by omega) _, ents_nine _, by rw [ents_len]; omega⟩
    have hl1 : H.length + 2 ≤ ((K ++ [AObj.cells [[iv e.series, iv e.time, iv e.version, iv e.arrived, iv e.owner, iv e.free, iv e.lo, iv e.hi, .val (.string e.cause)]] 31]).set (H.length + 1) (lp .busy)).length := by rw [List.length_set, List.length_append]; omega
    generalize (K ++ [AObj.cells [[iv e.series, iv e.time, iv e.version, iv e.arrived, iv e.owner, iv e.free, iv e.lo, iv e.hi, .val (.string e.cause)]] 31]).set (H.length + 1) (lp .busy) = K1 at *
    have hlow : ∀ X i, i < H.length + 2 → (ownK K1 a ++ [X])[i]? = K1[i]? := fun X i hi => by
      rw [List.getElem?_append_left (by rw [ownK_len]; omega), ownK_low hO1.own hi]
    have hc2 := fun X => (hlow X H.length (by omega)).trans hc1
    have hea := ents_app (L.take j) e
    have htk : L.take j ++ [e] = L.take (j + 1) := by rw [List.take_add_one, he]; rfl
    rw [htk] at hea
    repeat' (first | refine spD (fun _ => ?_) (fun _ => ?_) | refine spF (fun _ => ?_) (fun _ => ?_) | (apply gT; (exact rfl)) | (apply off; (exact rfl); (exact rfl)) | (apply condT; (exact rfl)) | (apply condF; (exact rfl)) | ((first | (apply stp0; (exact rfl); (exact rfl)) | (apply stpN0; (exact rfl)) | apply gT | apply condT | ((first | apply bodyQ_d0 | apply bodyQ_d1 | apply bodyQ_d2 | apply bodyQ_d3 | apply bodyQ_d4); (exact .inr rfl); (rw [Try.results33]))); (first | (focus (simp only [go_sem, ↓reduceIte, simprocAttr, t2, t5, hx, hc1, hc2] <;> rfl)) | exact rfl); (first | (fail_if_success (show okD _ _ _ _ _ _ _ _ _)) | (first | exact okT | exact okN | exact okE rfl)); (first | (fail_if_success (show Bel _ _)) | (focus first | exact .val _ | (simp [oneOf, Bel_iff_tup, Bel_iff_agg, Bel_iff_rsl, Bel_iff_fn, Bel_iff_rptr, Bel_val]; done)))) | (apply stpApp; (exact rfl); (first | exact hO1); (iterate 2 (first | (focus (simp only [go_sem, ↓reduceIte, simprocAttr, t2, t5, hx, hc1, hc2] <;> rfl)) | rfl)); (first | rfl | (simp [AV.isCell]; done)); (first | rfl | (simp; done)); (first | exact ap22 | exact ap23 | exact ap55 | exact ap79 | exact ap83 | exact ap96 | exact ap99); (first | exact okT | exact okN | exact okE rfl)) | refine thenQ_n ?_ | refine thenQ_r ?_ | refine thenQ_e ?_ | refine blockQ_n ?_ | refine blockQ_r ?_ | refine blockQ_e ?_ | (apply blockQ_o; (exact rfl)) | refine Awp.seq ?_ | refine Awp.skip ?_ | refine Awp.block ?_ | refine reg (fun s => s == 2 || s == 5) ?_ | (apply drwE mixed (fun s => s == 2 || s == 5); (kernel_rfl)) | refine fin ?_ | refine Awp.ret ?_ | refine Awp.exit ?_ | ((first | (apply off; (exact rfl)) | apply condF); (first | (focus (simp only [go_sem, ↓reduceIte, simprocAttr, t2, t5, hx, hc1, hc2] <;> rfl)) | exact rfl)))
    all_goals first | contradiction | skip
    have hO4 := hO1.own.next hl1 [iv e.series, iv e.time, iv e.version, iv e.arrived, iv e.owner, iv e.free, iv e.lo, iv e.hi, .val (.string e.cause)] rfl rfl
    have hX := fun i hi => hlow (AObj.cells (ents (L.take j) ++ [[iv e.series, iv e.time, iv e.version, iv e.arrived, iv e.owner, iv e.free, iv e.lo, iv e.hi, .val (.string e.cause)]]) 31) i hi
    have hG2 : Grow H (ownK K1 a ++ [AObj.cells (ents (L.take j) ++ [[iv e.series, iv e.time, iv e.version, iv e.arrived, iv e.owner, iv e.free, iv e.lo, iv e.hi, .val (.string e.cause)]]) 31]) := (hO1.own.grow (by omega) hG1).app _
    have hc3 := hc2 (AObj.cells (ents (L.take j) ++ [[iv e.series, iv e.time, iv e.version, iv e.arrived, iv e.owner, iv e.free, iv e.lo, iv e.hi, .val (.string e.cause)]]) 31)
    have hlp3 := (hX (H.length + 1) (by omega)).trans hlp1
    rw [hea] at hO4 hG2 hc3 hlp3 ⊢
    generalize ownK K1 a ++ [AObj.cells (ents (L.take (j + 1))) 31] = K3 at *
    refine ⟨by rw [List.getElem?_set_ne (by omega)]; exact hlp3, (hG2.set (Nat.le_refl _) _).set (by omega) _, _, ?_, (hO4.setLow (by omega) _).setLow (by omega) _⟩
    rw [List.getElem?_set_ne (by omega)]; exact (heldS hc3).1 _
  · rintro H1 ob ⟨hG, a, hc, hO⟩ hlp
    rw [List.take_length] at hO
    rw [hAl]
    have hc2 : (H1.set (H.length + 1) .dead)[H.length]? = some (.cells [[a]] 23) := by rw [List.getElem?_set_ne (by omega)]; exact hc
    have hO2 := (hO.setLow (s := H.length + 1) (by omega) .dead).low (lo' := H.length) (by omega)
    have hG2 := hG.set (s := H.length + 1) (by omega) .dead
    generalize H1.set (H.length + 1) .dead = K at *
    repeat' (first | refine spD (fun _ => ?_) (fun _ => ?_) | refine spF (fun _ => ?_) (fun _ => ?_) | (apply gT; (exact rfl)) | (apply off; (exact rfl); (exact rfl)) | (apply condT; (exact rfl)) | (apply condF; (exact rfl)) | ((first | (apply stp0; (exact rfl); (exact rfl)) | (apply stpN0; (exact rfl)) | apply gT | apply condT); (first | (focus (simp only [go_sem, ↓reduceIte, simprocAttr, t2, hc2] <;> rfl)) | exact rfl); (first | (fail_if_success (show okD _ _ _ _ _ _ _ _ _)) | (first | exact okT | exact okN | exact okE rfl))) | refine thenQ_n ?_ | refine thenQ_r ?_ | refine thenQ_e ?_ | refine blockQ_n ?_ | refine blockQ_r ?_ | refine blockQ_e ?_ | (apply blockQ_o; (exact rfl)) | refine Awp.seq ?_ | refine Awp.skip ?_ | refine Awp.block ?_ | refine reg (fun s => s == 2 || s == 5) ?_ | (apply drwE mixed (fun s => s == 2 || s == 5); (kernel_rfl)) | refine fin ?_ | refine Awp.ret ?_ | refine Awp.exit ?_ | ((first | (apply off; (exact rfl)) | apply condF); (first | (focus (simp only [go_sem, ↓reduceIte, simprocAttr, t2, hc2] <;> rfl)) | exact rfl)))
    all_goals first | contradiction | skip
    exact bodyQ_mk (vs := [a]) (.inr rfl) (by rw [Try.results33]; first | (simp only [go_sem, ↓reduceIte, simprocAttr]; done) | (simp only [go_sem, ↓reduceIte, simprocAttr]; rfl)) (Vs.refl _ _ _) ⟨hO2, hG2⟩
  · intro H1 h; exact h.elim

theorem collect_ok (H : Hp) {p b : Nat} {S : List Ser} {L : List Ent} (hA : Arc H p b S L) (hlen : L.length ≤ 1024) :
    ACalls Try.prog 21 [.fn (.func 34) [.rptr [.mptr p 0 0] 0]] H fun v K => Own H.length 31 K v (ents L) ∧ Grow H K := by
  have h := appendSeq_ok H hA hlen
  refine ACalls.of_body Try.func21 rfl (by kernel_rfl) (by rw [Try.ntmps21]; simp) ?_; rw [Try.ntmps21]
  repeat' (first | refine spD (fun _ => ?_) (fun _ => ?_) | refine spF (fun _ => ?_) (fun _ => ?_) | (apply gT; (exact rfl)) | (apply off; (exact rfl); (exact rfl)) | (apply condT; (exact rfl)) | (apply condF; (exact rfl)) | ((first | (apply stp0; (exact rfl); (exact rfl)) | (apply stpN0; (exact rfl)) | apply gT | apply condT | ((first | apply bodyQ_d0 | apply bodyQ_d1 | apply bodyQ_d2 | apply bodyQ_d3 | apply bodyQ_d4); (exact .inr rfl); (rw [Try.results21]))); (first | (focus (simp only [go_sem, ↓reduceIte, simprocAttr] <;> rfl)) | exact rfl); (first | (fail_if_success (show okD _ _ _ _ _ _ _ _ _)) | (first | exact okT | exact okN | exact okE rfl)); (first | (fail_if_success (show Bel _ _)) | (focus first | exact .val _ | (simp [oneOf, Bel_iff_tup, Bel_iff_agg, Bel_iff_rsl, Bel_iff_fn, Bel_iff_rptr, Bel_val]; done)))) | refine thenQ_n ?_ | refine thenQ_r ?_ | refine thenQ_e ?_ | refine blockQ_n ?_ | refine blockQ_r ?_ | refine blockQ_e ?_ | (apply blockQ_o; (exact rfl)) | refine Awp.seq ?_ | refine Awp.skip ?_ | refine Awp.block ?_ | refine reg (fun s => false) ?_ | (apply drwE mixed (fun s => false); (kernel_rfl)) | refine fin ?_ | refine Awp.ret ?_ | refine Awp.exit ?_ | ((first | (apply off; (exact rfl)) | apply condF); (first | (focus (simp only [go_sem, ↓reduceIte, simprocAttr] <;> rfl)) | exact rfl)))
  all_goals first | contradiction | skip
  refine cal rfl rfl rfl ?_ (show ACallV Try.prog (.fn (.func 33) []) [nilS, .fn (.func 34) [.rptr [.mptr p 0 0] 0]] H _ from h) ?_
  · (first | (focus (simp only [go_sem, ↓reduceIte, simprocAttr]; first | done | rfl)) | rfl)
  rintro v1 K ⟨hO, hG⟩
  repeat' (first | refine spD (fun _ => ?_) (fun _ => ?_) | refine spF (fun _ => ?_) (fun _ => ?_) | (apply gT; (exact rfl)) | (apply off; (exact rfl); (exact rfl)) | (apply condT; (exact rfl)) | (apply condF; (exact rfl)) | ((first | (apply stp0; (exact rfl); (exact rfl)) | (apply stpN0; (exact rfl)) | apply gT | apply condT); (first | (focus (simp only [go_sem, ↓reduceIte, simprocAttr] <;> rfl)) | exact rfl); (first | (fail_if_success (show okD _ _ _ _ _ _ _ _ _)) | (first | exact okT | exact okN | exact okE rfl))) | refine thenQ_n ?_ | refine thenQ_r ?_ | refine thenQ_e ?_ | refine blockQ_n ?_ | refine blockQ_r ?_ | refine blockQ_e ?_ | (apply blockQ_o; (exact rfl)) | refine Awp.seq ?_ | refine Awp.skip ?_ | refine Awp.block ?_ | refine reg (fun s => false) ?_ | (apply drwE mixed (fun s => false); (kernel_rfl)) | refine fin ?_ | refine Awp.ret ?_ | refine Awp.exit ?_ | ((first | (apply off; (exact rfl)) | apply condF); (first | (focus (simp only [go_sem, ↓reduceIte, simprocAttr] <;> rfl)) | exact rfl)))
  all_goals first | contradiction | skip
  exact bodyQ_mk (vs := [v1]) (.inr rfl) (by rw [Try.results21]; first | (simp only [go_sem, ↓reduceIte, simprocAttr]; done) | (simp only [go_sem, ↓reduceIte, simprocAttr]; rfl)) (Vs.refl _ _ _) ⟨hO, hG⟩
theorem Entries_ok (H : Hp) {p b : Nat} {S : List Ser} {L : List Ent} (hA : Arc H p b S L) (hlen : L.length ≤ 1024) :
    ACalls Try.prog 9 [.mptr p 0 0] H fun v K => Own H.length 31 K v (ents L) ∧ Grow H K := by
  have h := collect_ok H hA hlen
  have hv := valid_ok H hA.hp
  refine ACalls.of_body Try.func9 rfl (by kernel_rfl) (by rw [Try.ntmps9]; simp) ?_; rw [Try.ntmps9]
  repeat' (first | refine spD (fun _ => ?_) (fun _ => ?_) | refine spF (fun _ => ?_) (fun _ => ?_) | (apply gT; (exact rfl)) | (apply off; (exact rfl); (exact rfl)) | (apply condT; (exact rfl)) | (apply condF; (exact rfl)) | ((first | (apply stp0; (exact rfl); (exact rfl)) | (apply stpN0; (exact rfl)) | apply gT | apply condT | ((first | apply bodyQ_d0 | apply bodyQ_d1 | apply bodyQ_d2 | apply bodyQ_d3 | apply bodyQ_d4); (exact .inr rfl); (rw [Try.results9]))); (first | (focus (simp only [go_sem, ↓reduceIte, simprocAttr] <;> rfl)) | exact rfl); (first | (fail_if_success (show okD _ _ _ _ _ _ _ _ _)) | (first | exact okT | exact okN | exact okE rfl)); (first | (fail_if_success (show Bel _ _)) | (focus first | exact .val _ | (simp [oneOf, Bel_iff_tup, Bel_iff_agg, Bel_iff_rsl, Bel_iff_fn, Bel_iff_rptr, Bel_val]; done)))) | (apply calTo0; (exact rfl); (iterate 2 (simp only [go_sem, ↓reduceIte, simprocAttr]; rfl)); (first | exact hv | exact inOrder_ok _ p); (first | exact okT | exact okN | exact okE rfl)) | refine thenQ_n ?_ | refine thenQ_r ?_ | refine thenQ_e ?_ | refine blockQ_n ?_ | refine blockQ_r ?_ | refine blockQ_e ?_ | (apply blockQ_o; (exact rfl)) | refine Awp.seq ?_ | refine Awp.skip ?_ | refine Awp.block ?_ | refine reg (fun s => false) ?_ | (apply drwE mixed (fun s => false); (kernel_rfl)) | refine fin ?_ | refine Awp.ret ?_ | refine Awp.exit ?_ | ((first | (apply off; (exact rfl)) | apply condF); (first | (focus (simp only [go_sem, ↓reduceIte, simprocAttr] <;> rfl)) | exact rfl)))
  all_goals first | contradiction | skip
  refine cal rfl rfl rfl ?_ (show ACallV Try.prog (.fn (.func 21) []) [.fn (.func 34) [.rptr [.mptr p 0 0] 0]] H _ from h) ?_
  · (first | (focus (simp only [go_sem, ↓reduceIte, simprocAttr]; first | done | rfl)) | rfl)
  rintro v1 K ⟨hO, hG⟩
  repeat' (first | refine spD (fun _ => ?_) (fun _ => ?_) | refine spF (fun _ => ?_) (fun _ => ?_) | (apply gT; (exact rfl)) | (apply off; (exact rfl); (exact rfl)) | (apply condT; (exact rfl)) | (apply condF; (exact rfl)) | ((first | (apply stp0; (exact rfl); (exact rfl)) | (apply stpN0; (exact rfl)) | apply gT | apply condT); (first | (focus (simp only [go_sem, ↓reduceIte, simprocAttr] <;> rfl)) | exact rfl); (first | (fail_if_success (show okD _ _ _ _ _ _ _ _ _)) | (first | exact okT | exact okN | exact okE rfl))) | refine thenQ_n ?_ | refine thenQ_r ?_ | refine thenQ_e ?_ | refine blockQ_n ?_ | refine blockQ_r ?_ | refine blockQ_e ?_ | (apply blockQ_o; (exact rfl)) | refine Awp.seq ?_ | refine Awp.skip ?_ | refine Awp.block ?_ | refine reg (fun s => false) ?_ | (apply drwE mixed (fun s => false); (kernel_rfl)) | refine fin ?_ | refine Awp.ret ?_ | refine Awp.exit ?_ | ((first | (apply off; (exact rfl)) | apply condF); (first | (focus (simp only [go_sem, ↓reduceIte, simprocAttr] <;> rfl)) | exact rfl)))
  all_goals first | contradiction | skip
  exact bodyQ_mk (vs := [v1]) (.inr rfl) (by rw [Try.results9]; first | (simp only [go_sem, ↓reduceIte, simprocAttr]; done) | (simp only [go_sem, ↓reduceIte, simprocAttr]; rfl)) (Vs.refl _ _ _) ⟨hO, hG⟩

end Go.Proofs.Ytdmgljlabigljaa.Ab
