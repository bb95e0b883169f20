/- Archive: Mean, Below. -/
import Derived.Test.YtdmgljlabigljaaTY
namespace Go.Proofs.Ytdmgljlabigljaa.Ab
open Go Go.RowKit Go.Proofs
set_option linter.unusedSimpArgs false
set_option linter.unusedVariables false
attribute [local irreducible] Awp wpO thenQ blockQ bodyQ ACalls stepA

structure Bnd (S : List Ser) (L : List Ent) : Prop where
  ser : ∀ s ∈ S, InB s.lo ∧ InB s.hi
  ent : ∀ e ∈ L, InB e.lo ∧ InB e.hi
theorem cnt_fold (asOf : Int) (P : Ent → Prop) : ∀ (L : List Ent) (st : List Ent × Option Ent), (∀ e ∈ L, e.arrived ≤ asOf → P e) → (∀ e ∈ st.1, P e) → (∀ e, st.2 = some e → P e) → (∀ e ∈ (L.foldl (stepC asOf) st).1, P e) ∧ (∀ e, (L.foldl (stepC asOf) st).2 = some e → P e)
  | [], st, _, h1, h2 => ⟨h1, h2⟩
  | x :: L, st, h, h1, h2 => by
    rw [List.foldl_cons]
    refine cnt_fold asOf P L _ (fun e he => h e (List.mem_cons_of_mem _ he)) ?_ ?_
    · intro e he
      unfold stepC at he
      split at he
      · exact h1 e he
      · split at he
        · next l hl =>
          split at he
          · exact h1 e he
          · rcases List.mem_append.1 he with he | he
            · exact h1 e he
            · simp at he; subst he; exact h2 _ hl
        · exact h1 e he
    · intro e he
      unfold stepC at he
      split at he
      · exact h2 e he
      · next hx =>
        have : x = e := by
          split at he
          · split at he <;> simpa using he
          · simpa using he
        subst this
        exact h x List.mem_cons_self (by omega)
theorem cntL_mem {asOf : Int} {L : List Ent} {e : Ent} (h : e ∈ cntL asOf L) : e ∈ L ∧ e.arrived ≤ asOf := by
  have h1 := cnt_fold asOf (fun e => e ∈ L ∧ e.arrived ≤ asOf) L ([], none) (fun e he ha => ⟨he, ha⟩) (by simp) (by simp)
  unfold cntL cntS at h
  rcases List.mem_append.1 h with h | h
  · exact h1.1 e h
  · exact h1.2 e (by simpa using h)
theorem fndL_mem {L : List Ent} {q : Qy} {e : Ent} (h : e ∈ fndL L q) : e ∈ L := (cntL_mem (List.mem_filter.1 h).1).1
theorem fndL_len (L : List Ent) (q : Qy) : (fndL L q).length ≤ L.length := Nat.le_trans (List.length_filter_le _ _) (cntL_len _ _)

def meanF (S : List Ser) (L : List Ent) (q : Qy) : Int × Int × Int :=
  if qOK S q then match S[q.series.toNat]? with
    | some s => if fndL L q = [] then (5, 0, 0) else (0, mnLo (fndL L q).length (sumOf (vLo q s.lo) (fndL L q)), mnHi (fndL L q).length (sumOf (vHi q s.hi) (fndL L q)))
    | none => (2, 0, 0)
  else (2, 0, 0)

set_option maxRecDepth 8000 in
set_option maxHeartbeats 8000000 in
theorem Mean_ok (H : Hp) {p b : Nat} {S : List Ser} {L : List Ent} (hA : Arc H p b S L) (hB : Bnd S L) (hlen : L.length ≤ 1024) (q : Qy) :
    ACalls Try.prog 10 [.mptr p 0 0, .agg q.cs] H fun v K => Grow H K ∧ v = .tup [.agg [iv (meanF S L q).2.1, iv (meanF S L q).2.2], iv (meanF S L q).1] := by
  have hG0 := (Grow.refl H).app [AObj.cells [[iv 0, iv 0]] 29]
  have hl := look_ok _ (hA.grow hG0) hlen q
  refine ACalls.of_body Try.func10 rfl (by kernel_rfl) (by rw [Try.ntmps10]; simp) ?_; rw [Try.ntmps10]
  repeat' (first | refine spD (fun _ => ?_) (fun _ => ?_) | refine spF (fun _ => ?_) (fun _ => ?_) | (apply gT; (exact rfl)) | (apply off; (exact rfl); (exact rfl)) | (apply condT; (exact rfl)) | (apply condF; (exact rfl)) | ((first | (apply stp0; (exact rfl); (exact rfl)) | (apply stpN0; (exact rfl)) | apply gT | apply condT | ((first | apply bodyQ_d0 | apply bodyQ_d1 | apply bodyQ_d2 | apply bodyQ_d3 | apply bodyQ_d4); (exact .inr rfl); (rw [Try.results10]))); (first | (focus (simp only [go_sem, ↓reduceIte, simprocAttr, Qy.cs] <;> rfl)) | exact rfl); (first | (fail_if_success (show okD _ _ _ _ _ _ _ _ _)) | (first | exact okT | exact okN | exact okE rfl)); (first | (fail_if_success (show Bel _ _)) | (focus first | exact .val _ | (simp [oneOf, Bel_iff_tup, Bel_iff_agg, Bel_iff_rsl, Bel_iff_fn, Bel_iff_rptr, Bel_val]; done)))) | refine thenQ_n ?_ | refine thenQ_r ?_ | refine thenQ_e ?_ | refine blockQ_n ?_ | refine blockQ_r ?_ | refine blockQ_e ?_ | (apply blockQ_o; (exact rfl)) | refine Awp.seq ?_ | refine Awp.skip ?_ | refine Awp.block ?_ | refine reg (fun s => s == 4) ?_ | (apply drwE mixed (fun s => s == 4); (kernel_rfl)) | refine fin ?_ | refine Awp.ret ?_ | refine Awp.exit ?_ | ((first | (apply off; (exact rfl)) | apply condF); (first | (focus (simp only [go_sem, ↓reduceIte, simprocAttr, Qy.cs] <;> rfl)) | exact rfl)))
  all_goals first | contradiction | skip
  refine cal rfl rfl rfl ?_ (show ACallV Try.prog (.fn (.func 23) []) [.mptr p 0 0, .agg q.cs] _ _ from hl) ?_
  · (first | (focus (simp only [go_sem, ↓reduceIte, simprocAttr, Qy.cs]; first | done | rfl)) | rfl)
  have hz0 := get_new H (AObj.cells [[iv 0, iv 0]] 29)
  rintro v1 K ⟨hG, ⟨hq, rfl⟩ | ⟨hq, s, vb, hs, rfl, hV⟩⟩
  · have hz := hG.get hz0
    have hG2 := hG0.trans hG
    have e : meanF S L q = (2, 0, 0) := by unfold meanF; rw [if_neg hq]
    rw [e]
    have fz : ∀ c, (K.set H.length c)[H.length]? = some c := fun c => (heldS hz).1 _
    repeat' (first | refine spD (fun _ => ?_) (fun _ => ?_) | refine spF (fun _ => ?_) (fun _ => ?_) | (apply gT; (exact rfl)) | (apply off; (exact rfl); (exact rfl)) | (apply condT; (exact rfl)) | (apply condF; (exact rfl)) | ((first | (apply stp0; (exact rfl); (exact rfl)) | (apply stpN0; (exact rfl)) | apply gT | apply condT); (first | (focus (simp only [go_sem, ↓reduceIte, simprocAttr, hz] <;> rfl)) | exact rfl); (first | (fail_if_success (show okD _ _ _ _ _ _ _ _ _)) | (first | exact okT | exact okN | exact okE rfl))) | refine thenQ_n ?_ | refine thenQ_r ?_ | refine thenQ_e ?_ | refine blockQ_n ?_ | refine blockQ_r ?_ | refine blockQ_e ?_ | (apply blockQ_o; (exact rfl)) | refine Awp.seq ?_ | refine Awp.skip ?_ | refine Awp.block ?_ | refine reg (fun s => s == 4) ?_ | (apply drwE mixed (fun s => s == 4); (kernel_rfl)) | refine fin ?_ | refine Awp.ret ?_ | refine Awp.exit ?_ | ((first | (apply off; (exact rfl)) | apply condF); (first | (focus (simp only [go_sem, ↓reduceIte, simprocAttr, hz] <;> rfl)) | exact rfl)))
    all_goals first | contradiction | skip
    exact bodyQ_mk (vs := [.agg [iv 0, iv 0], iv 2]) (.inr rfl) (by rw [Try.results10]; first | (simp only [go_sem, ↓reduceIte, simprocAttr, fz]; done) | (simp only [go_sem, ↓reduceIte, simprocAttr, fz]; rfl)) (Vs.refl _ _ _) ⟨hG2.set (Nat.le_refl _) _, rfl⟩
  · have hz := hG.get hz0
    have hG2 := hG0.trans hG
    have hvc := hV.cell
    have hFl := ents_len (fndL L q)
    by_cases hF : fndL L q = []
    · have e : meanF S L q = (5, 0, 0) := by unfold meanF; rw [if_pos hq, hs]; simp only [hF, if_true]
      rw [e]
      rw [hF] at hvc
      have fz : ∀ c, (K.set H.length c)[H.length]? = some c := fun c => (heldS hz).1 _
      simp only [ents, List.map_nil] at hvc
      repeat' (first | refine spD (fun _ => ?_) (fun _ => ?_) | refine spF (fun _ => ?_) (fun _ => ?_) | (apply gT; (exact rfl)) | (apply off; (exact rfl); (exact rfl)) | (apply condT; (exact rfl)) | (apply condF; (exact rfl)) | ((first | (apply stp0; (exact rfl); (exact rfl)) | (apply stpN0; (exact rfl)) | apply gT | apply condT); (first | (focus (simp only [go_sem, ↓reduceIte, simprocAttr, hz, hvc, List.length_nil, Int.natCast_zero, beq_self_eq_true] <;> rfl)) | exact rfl); (first | (fail_if_success (show okD _ _ _ _ _ _ _ _ _)) | (first | exact okT | exact okN | exact okE rfl))) | refine thenQ_n ?_ | refine thenQ_r ?_ | refine thenQ_e ?_ | refine blockQ_n ?_ | refine blockQ_r ?_ | refine blockQ_e ?_ | (apply blockQ_o; (exact rfl)) | refine Awp.seq ?_ | refine Awp.skip ?_ | refine Awp.block ?_ | refine reg (fun s => s == 4) ?_ | (apply drwE mixed (fun s => s == 4); (kernel_rfl)) | refine fin ?_ | refine Awp.ret ?_ | refine Awp.exit ?_ | ((first | (apply off; (exact rfl)) | apply condF); (first | (focus (simp only [go_sem, ↓reduceIte, simprocAttr, hz, hvc, List.length_nil, Int.natCast_zero, beq_self_eq_true] <;> rfl)) | exact rfl)))
      all_goals first | contradiction | skip
      exact bodyQ_mk (vs := [.agg [iv 0, iv 0], iv 5]) (.inr rfl) (by rw [Try.results10]; first | (simp only [go_sem, ↓reduceIte, simprocAttr, fz]; done) | (simp only [go_sem, ↓reduceIte, simprocAttr, fz]; rfl)) (Vs.refl _ _ _) ⟨hG2.set (Nat.le_refl _) _, rfl⟩
    · have e : meanF S L q = (0, mnLo (fndL L q).length (sumOf (vLo q s.lo) (fndL L q)), mnHi (fndL L q).length (sumOf (vHi q s.hi) (fndL L q))) := by unfold meanF; rw [if_pos hq, hs]; simp only [hF, if_false]
      rw [e]
      have hsm := List.mem_of_getElem? hs
      have hm := mean_ok K hvc hF (Nat.le_trans (fndL_len L q) hlen) (hB.ser s hsm).1 (hB.ser s hsm).2 (fun e he => hB.ent e (fndL_mem he))
      have hne : ¬ ((fndL L q).length : Int) = 0 := by
        intro h
        exact hF (List.eq_nil_of_length_eq_zero (by omega))
      repeat' (first | refine spD (fun _ => ?_) (fun _ => ?_) | refine spF (fun _ => ?_) (fun _ => ?_) | (apply gT; (exact rfl)) | (apply off; (exact rfl); (exact rfl)) | (apply condT; (exact rfl)) | (apply condF; (exact rfl)) | ((first | (apply stp0; (exact rfl); (exact rfl)) | (apply stpN0; (exact rfl)) | apply gT | apply condT | ((first | apply bodyQ_d0 | apply bodyQ_d1 | apply bodyQ_d2 | apply bodyQ_d3 | apply bodyQ_d4); (exact .inr rfl); (rw [Try.results10]))); (first | (focus (simp only [go_sem, ↓reduceIte, simprocAttr, hz, hvc, hFl, hne] <;> rfl)) | exact rfl); (first | (fail_if_success (show okD _ _ _ _ _ _ _ _ _)) | (first | exact okT | exact okN | exact okE rfl)); (first | (fail_if_success (show Bel _ _)) | (focus first | exact .val _ | (simp [oneOf, Bel_iff_tup, Bel_iff_agg, Bel_iff_rsl, Bel_iff_fn, Bel_iff_rptr, Bel_val]; done)))) | refine thenQ_n ?_ | refine thenQ_r ?_ | refine thenQ_e ?_ | refine blockQ_n ?_ | refine blockQ_r ?_ | refine blockQ_e ?_ | (apply blockQ_o; (exact rfl)) | refine Awp.seq ?_ | refine Awp.skip ?_ | refine Awp.block ?_ | refine reg (fun s => s == 4) ?_ | (apply drwE mixed (fun s => s == 4); (kernel_rfl)) | refine fin ?_ | refine Awp.ret ?_ | refine Awp.exit ?_ | ((first | (apply off; (exact rfl)) | apply condF); (first | (focus (simp only [go_sem, ↓reduceIte, simprocAttr, hz, hvc, hFl, hne] <;> rfl)) | exact rfl)))
      all_goals first | contradiction | skip
      refine cal rfl rfl rfl ?_ (show ACallV Try.prog (.fn (.func 24) []) [.mptr vb 0 0] _ _ from hm) ?_
      · (first | (focus (simp only [go_sem, ↓reduceIte, simprocAttr]; first | done | rfl)) | rfl)
      rintro v1 K2 ⟨hG3, rfl⟩
      have hz2 := hG3.get hz
      have fz : ∀ c, (K2.set H.length c)[H.length]? = some c := fun c => (heldS hz2).1 _
      repeat' (first | refine spD (fun _ => ?_) (fun _ => ?_) | refine spF (fun _ => ?_) (fun _ => ?_) | (apply gT; (exact rfl)) | (apply off; (exact rfl); (exact rfl)) | (apply condT; (exact rfl)) | (apply condF; (exact rfl)) | ((first | (apply stp0; (exact rfl); (exact rfl)) | (apply stpN0; (exact rfl)) | apply gT | apply condT); (first | (focus (simp only [go_sem, ↓reduceIte, simprocAttr, hz2] <;> rfl)) | exact rfl); (first | (fail_if_success (show okD _ _ _ _ _ _ _ _ _)) | (first | exact okT | exact okN | exact okE rfl))) | refine thenQ_n ?_ | refine thenQ_r ?_ | refine thenQ_e ?_ | refine blockQ_n ?_ | refine blockQ_r ?_ | refine blockQ_e ?_ | (apply blockQ_o; (exact rfl)) | refine Awp.seq ?_ | refine Awp.skip ?_ | refine Awp.block ?_ | refine reg (fun s => s == 4) ?_ | (apply drwE mixed (fun s => s == 4); (kernel_rfl)) | refine fin ?_ | refine Awp.ret ?_ | refine Awp.exit ?_ | ((first | (apply off; (exact rfl)) | apply condF); (first | (focus (simp only [go_sem, ↓reduceIte, simprocAttr, hz2] <;> rfl)) | exact rfl)))
      all_goals first | contradiction | skip
      exact bodyQ_mk (vs := [.agg [iv (mnLo (fndL L q).length (sumOf (vLo q s.lo) (fndL L q))), iv (mnHi (fndL L q).length (sumOf (vHi q s.hi) (fndL L q)))], iv 0]) (.inr rfl) (by rw [Try.results10]; first | (simp only [go_sem, ↓reduceIte, simprocAttr, fz]; done) | (simp only [go_sem, ↓reduceIte, simprocAttr, fz]; rfl)) (Vs.refl _ _ _) ⟨(hG2.trans hG3).set (Nat.le_refl _) _, rfl⟩

end Go.Proofs.Ytdmgljlabigljaa.Ab
