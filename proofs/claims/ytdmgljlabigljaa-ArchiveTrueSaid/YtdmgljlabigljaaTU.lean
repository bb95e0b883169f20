/- Archive: Counts. -/
import Derived.Test.YtdmgljlabigljaaTT
namespace Go.Proofs.Ytdmgljlabigljaa.Ab
open Go Go.RowKit Go.Proofs
set_option linter.unusedSimpArgs false
set_option linter.unusedVariables false
attribute [local irreducible] Awp wpO thenQ blockQ bodyQ ACalls stepA

def isST (series time : Int) (e : Ent) : Bool := decide (e.series = series ∧ e.time = time)
def cntsF (S : List Ser) (L : List Ent) (series time asOf : Int) : Int × Ent :=
  if series < 0 ∨ series ≥ (S.length : Int) ∨ timesB [time, asOf] = false then (2, zeroE) else match (cntL asOf L).find? (isST series time) with
    | some e => (0, e)
    | none => (5, zeroE)
theorem find_take {α : Type} {p : α → Bool} {l : List α} {j : Nat} {e : α} (h : ∀ x ∈ l.take j, p x = false) (he : l[j]? = some e) (hp : p e = true) : l.find? p = some e := by
  have hl := (List.getElem?_eq_some_iff.1 he).1
  rw [← List.take_append_drop j l, List.find?_append]
  have h1 : (l.take j).find? p = none := List.find?_eq_none.2 fun x hx => by rw [h x hx]; decide
  rw [h1, List.drop_eq_getElem_cons hl, (List.getElem?_eq_some_iff.1 he).2, List.find?_cons, hp]; rfl
theorem find_no {α : Type} {p : α → Bool} {l : List α} (h : ∀ x ∈ l, p x = false) : l.find? p = none := List.find?_eq_none.2 fun x hx => by rw [h x hx]; decide

set_option maxRecDepth 8000 in
set_option maxHeartbeats 8000000 in
theorem Counts_ok (H : Hp) {p b : Nat} {S : List Ser} {L : List Ent} (hA : Arc H p b S L) (hlen : L.length ≤ 1024) (series time asOf : Int) :
    ACalls Try.prog 8 [.mptr p 0 0, iv series, iv time, iv asOf] H fun v K => v = .tup [(cntsF S L series time asOf).2.av, iv (cntsF S L series time asOf).1] ∧ Grow H K := by
  have hSl := sers_len S
  have hT := fun H => isTime_ok H [time, asOf] true (by simp [maxLen])
  simp only [ints, List.map_cons, List.map_nil] at hT
  refine ACalls.of_body Try.func8 rfl (by kernel_rfl) (by rw [Try.ntmps8]; simp) ?_; rw [Try.ntmps8]
  repeat' ((fail_if_success (apply stopR (id := 1))); (fail_if_success (apply stopS (id := 1))); first | refine spD (fun _ => ?_) (fun _ => ?_) | refine spF (fun _ => ?_) (fun _ => ?_) | (apply gT; (exact rfl)) | (apply off; (exact rfl); (exact rfl)) | (apply condT; (exact rfl)) | (apply condF; (exact rfl)) | ((first | (apply stp0; (exact rfl); (exact rfl)) | (apply stpN0; (exact rfl)) | apply gT | apply condT | ((first | apply bodyQ_d0 | apply bodyQ_d1 | apply bodyQ_d2 | apply bodyQ_d3 | apply bodyQ_d4); (exact .inr rfl); (rw [Try.results8]))); (first | (focus (simp only [go_sem, ↓reduceIte, simprocAttr] <;> rfl)) | exact rfl); (first | (fail_if_success (show okD _ _ _ _ _ _ _ _ _)) | (first | exact okT | exact okN | exact okE rfl)); (first | (fail_if_success (show Bel _ _)) | (focus first | exact .val _ | (simp [oneOf, Bel_iff_tup, Bel_iff_agg, Bel_iff_rsl, Bel_iff_fn, Bel_iff_rptr, Bel_val]; done)))) | refine thenQ_n ?_ | refine thenQ_r ?_ | refine thenQ_e ?_ | refine blockQ_n ?_ | refine blockQ_r ?_ | refine blockQ_e ?_ | (apply blockQ_o; (exact rfl)) | refine Awp.seq ?_ | refine Awp.skip ?_ | refine Awp.block ?_ | refine reg (fun s => s == 8 || s == 9 || s == 10) ?_ | (apply drwE mixed (fun s => s == 8 || s == 9 || s == 10); (kernel_rfl)) | refine fin ?_ | refine Awp.ret ?_ | refine Awp.exit ?_ | ((first | (apply off; (exact rfl)) | apply condF); (first | (focus (simp only [go_sem, ↓reduceIte, simprocAttr] <;> rfl)) | exact rfl)))
  all_goals first | contradiction | skip
  obtain ⟨A, hAe⟩ : ∃ A : Hp, H ++ [AObj.cells [[iv 0, iv 0, iv 0, iv 0, iv 0, iv 0, iv 0, iv 0, .val (.string ⟨#[]⟩)]] 31] ++ [AObj.cells [[iv 0]] 32] = A := ⟨_, rfl⟩
  rw [hAe]
  have hAl : A.length = H.length + 2 := by rw [← hAe]; simp
  have hA0 : A[H.length]? = some (.cells [[iv 0, iv 0, iv 0, iv 0, iv 0, iv 0, iv 0, iv 0, .val (.string ⟨#[]⟩)]] 31) := by rw [← hAe]; simp
  have hA1 : A[H.length + 1]? = some (.cells [[iv 0]] 32) := by rw [← hAe]; simp
  have hAG : Grow H A := by rw [← hAe]; exact ((Grow.refl H).app _).app _
  have hp := hAG.get hA.hp
  have hv := valid_ok A hp
  refine Awp.withT (fun T' => T' 0 = .mptr p 0 0 ∧ T' 3 = iv asOf ∧ T' 5 = .rptr [iv series] 0 ∧ T' 6 = .rptr [iv time] 0 ∧ T' 8 = .mptr H.length 0 0 ∧ T' 9 = .mptr (H.length + 1) 0 0) ⟨by (first | (focus (simp only [go_sem, ↓reduceIte, simprocAttr]; first | done | rfl)) | rfl), by (first | (focus (simp only [go_sem, ↓reduceIte, simprocAttr]; first | done | rfl)) | rfl), by (first | (focus (simp only [go_sem, ↓reduceIte, simprocAttr]; first | done | rfl)) | rfl), by (first | (focus (simp only [go_sem, ↓reduceIte, simprocAttr]; first | done | rfl)) | rfl), by (first | (focus (simp only [go_sem, ↓reduceIte, simprocAttr]; first | done | rfl)) | rfl), by (first | (focus (simp only [go_sem, ↓reduceIte, simprocAttr, List.length_append, List.length_singleton]; first | done | rfl)) | rfl)⟩ ?_
  rintro T ⟨t0, t3, t5, t6, t8, t9⟩
  have hA2 : ∀ c, (A.set H.length c)[H.length + 1]? = some (.cells [[iv 0]] 32) := fun c => by rw [List.getElem?_set_ne (by omega)]; exact hA1
  have hA3 : ∀ c d, ((A.set H.length c).set (H.length + 1) d)[H.length]? = some c := fun c d => by rw [List.getElem?_set_ne (by omega)]; exact (heldS hA0).1 _
  have hA4 : ∀ c d, ((A.set H.length c).set (H.length + 1) d)[H.length + 1]? = some d := fun c d => (heldS (hA2 c)).1 _
  have hG2 : ∀ c d, Grow H ((A.set H.length c).set (H.length + 1) d) := fun c d => (hAG.set (Nat.le_refl _) _).set (by omega) _
  have bad : ∀ X, (series < 0 ∨ series ≥ (S.length : Int) ∨ timesB [time, asOf] = false) → X = cntsF S L series time asOf → X = (2, zeroE) := fun X h e => by rw [e]; unfold cntsF; rw [if_pos h]
  by_cases h1 : series < 0
  · have e := bad _ (.inl h1) rfl
    rw [e]
    repeat' (first | refine spD (fun _ => ?_) (fun _ => ?_) | refine spF (fun _ => ?_) (fun _ => ?_) | (apply gT; (exact rfl)) | (apply off; (exact rfl); (exact rfl)) | (apply condT; (exact rfl)) | (apply condF; (exact rfl)) | ((first | (apply stp0; (exact rfl); (exact rfl)) | (apply stpN0; (exact rfl)) | apply gT | apply condT); (first | (focus (simp only [go_sem, ↓reduceIte, simprocAttr, t0, t3, t5, t6, t8, t9, hp, hSl, h1, hA0, hA2] <;> rfl)) | exact rfl); (first | (fail_if_success (show okD _ _ _ _ _ _ _ _ _)) | (first | exact okT | exact okN | exact okE rfl))) | (apply calTo0; (exact rfl); (iterate 2 (simp only [go_sem, ↓reduceIte, simprocAttr, t0, t3, t5, t6, t8, t9, hp, hSl, h1, hA0, hA2]; rfl)); (first | exact hv | exact hT _); (first | exact okT | exact okN | exact okE rfl)) | refine thenQ_n ?_ | refine thenQ_r ?_ | refine thenQ_e ?_ | refine blockQ_n ?_ | refine blockQ_r ?_ | refine blockQ_e ?_ | (apply blockQ_o; (exact rfl)) | refine Awp.seq ?_ | refine Awp.skip ?_ | refine Awp.block ?_ | refine reg (fun s => s == 8 || s == 9 || s == 10) ?_ | (apply drwE mixed (fun s => s == 8 || s == 9 || s == 10); (kernel_rfl)) | refine fin ?_ | refine Awp.ret ?_ | refine Awp.exit ?_ | ((first | (apply off; (exact rfl)) | apply condF); (first | (focus (simp only [go_sem, ↓reduceIte, simprocAttr, t0, t3, t5, t6, t8, t9, hp, hSl, h1, hA0, hA2] <;> rfl)) | exact rfl)))
    all_goals first | contradiction | skip
    exact bodyQ_mk (vs := [zeroE.av, iv 2]) (.inr rfl) (by rw [Try.results8]; first | (simp only [go_sem, ↓reduceIte, simprocAttr, t8, t9, hA3, hA4]; done) | (simp only [go_sem, ↓reduceIte, simprocAttr, t8, t9, hA3, hA4]; rfl)) (Vs.refl _ _ _) ⟨rfl, hG2 _ _⟩
  by_cases h2 : series ≥ (S.length : Int)
  · have e := bad _ (.inr (.inl h2)) rfl
    rw [e]
    repeat' (first | refine spD (fun _ => ?_) (fun _ => ?_) | refine spF (fun _ => ?_) (fun _ => ?_) | (apply gT; (exact rfl)) | (apply off; (exact rfl); (exact rfl)) | (apply condT; (exact rfl)) | (apply condF; (exact rfl)) | ((first | (apply stp0; (exact rfl); (exact rfl)) | (apply stpN0; (exact rfl)) | apply gT | apply condT); (first | (focus (simp only [go_sem, ↓reduceIte, simprocAttr, t0, t3, t5, t6, t8, t9, hp, hSl, h1, h2, hA0, hA2] <;> rfl)) | exact rfl); (first | (fail_if_success (show okD _ _ _ _ _ _ _ _ _)) | (first | exact okT | exact okN | exact okE rfl))) | (apply calTo0; (exact rfl); (iterate 2 (simp only [go_sem, ↓reduceIte, simprocAttr, t0, t3, t5, t6, t8, t9, hp, hSl, h1, h2, hA0, hA2]; rfl)); (first | exact hv | exact hT _); (first | exact okT | exact okN | exact okE rfl)) | refine thenQ_n ?_ | refine thenQ_r ?_ | refine thenQ_e ?_ | refine blockQ_n ?_ | refine blockQ_r ?_ | refine blockQ_e ?_ | (apply blockQ_o; (exact rfl)) | refine Awp.seq ?_ | refine Awp.skip ?_ | refine Awp.block ?_ | refine reg (fun s => s == 8 || s == 9 || s == 10) ?_ | (apply drwE mixed (fun s => s == 8 || s == 9 || s == 10); (kernel_rfl)) | refine fin ?_ | refine Awp.ret ?_ | refine Awp.exit ?_ | ((first | (apply off; (exact rfl)) | apply condF); (first | (focus (simp only [go_sem, ↓reduceIte, simprocAttr, t0, t3, t5, t6, t8, t9, hp, hSl, h1, h2, hA0, hA2] <;> rfl)) | exact rfl)))
    all_goals first | contradiction | skip
    exact bodyQ_mk (vs := [zeroE.av, iv 2]) (.inr rfl) (by rw [Try.results8]; first | (simp only [go_sem, ↓reduceIte, simprocAttr, t8, t9, hA3, hA4]; done) | (simp only [go_sem, ↓reduceIte, simprocAttr, t8, t9, hA3, hA4]; rfl)) (Vs.refl _ _ _) ⟨rfl, hG2 _ _⟩
  cases ht : timesB [time, asOf] with
  | false =>
    have e := bad _ (.inr (.inr ht)) rfl
    rw [e]
    rw [ht] at hT
    repeat' (first | refine spD (fun _ => ?_) (fun _ => ?_) | refine spF (fun _ => ?_) (fun _ => ?_) | (apply gT; (exact rfl)) | (apply off; (exact rfl); (exact rfl)) | (apply condT; (exact rfl)) | (apply condF; (exact rfl)) | ((first | (apply stp0; (exact rfl); (exact rfl)) | (apply stpN0; (exact rfl)) | apply gT | apply condT); (first | (focus (simp only [go_sem, ↓reduceIte, simprocAttr, t0, t3, t5, t6, t8, t9, hp, hSl, h1, h2, hA0, hA2] <;> rfl)) | exact rfl); (first | (fail_if_success (show okD _ _ _ _ _ _ _ _ _)) | (first | exact okT | exact okN | exact okE rfl))) | (apply calTo0; (exact rfl); (iterate 2 (simp only [go_sem, ↓reduceIte, simprocAttr, t0, t3, t5, t6, t8, t9, hp, hSl, h1, h2, hA0, hA2]; rfl)); (first | exact hv | exact hT _); (first | exact okT | exact okN | exact okE rfl)) | refine thenQ_n ?_ | refine thenQ_r ?_ | refine thenQ_e ?_ | refine blockQ_n ?_ | refine blockQ_r ?_ | refine blockQ_e ?_ | (apply blockQ_o; (exact rfl)) | refine Awp.seq ?_ | refine Awp.skip ?_ | refine Awp.block ?_ | refine reg (fun s => s == 8 || s == 9 || s == 10) ?_ | (apply drwE mixed (fun s => s == 8 || s == 9 || s == 10); (kernel_rfl)) | refine fin ?_ | refine Awp.ret ?_ | refine Awp.exit ?_ | ((first | (apply off; (exact rfl)) | apply condF); (first | (focus (simp only [go_sem, ↓reduceIte, simprocAttr, t0, t3, t5, t6, t8, t9, hp, hSl, h1, h2, hA0, hA2] <;> rfl)) | exact rfl)))
    all_goals first | contradiction | skip
    exact bodyQ_mk (vs := [zeroE.av, iv 2]) (.inr rfl) (by rw [Try.results8]; first | (simp only [go_sem, ↓reduceIte, simprocAttr, t8, t9, hA3, hA4]; done) | (simp only [go_sem, ↓reduceIte, simprocAttr, t8, t9, hA3, hA4]; rfl)) (Vs.refl _ _ _) ⟨rfl, hG2 _ _⟩
  | true =>
    rw [ht] at hT
    have good : cntsF S L series time asOf = match (cntL asOf L).find? (isST series time) with
        | some e => (0, e)
        | none => (5, zeroE) := by unfold cntsF; rw [if_neg (by rw [ht]; simp; omega)]
    repeat' (first | refine spD (fun _ => ?_) (fun _ => ?_) | refine spF (fun _ => ?_) (fun _ => ?_) | (apply gT; (exact rfl)) | (apply off; (exact rfl); (exact rfl)) | (apply condT; (exact rfl)) | (apply condF; (exact rfl)) | ((first | (apply stp0; (exact rfl); (exact rfl)) | (apply stpN0; (exact rfl)) | apply gT | apply condT | ((first | apply bodyQ_d0 | apply bodyQ_d1 | apply bodyQ_d2 | apply bodyQ_d3 | apply bodyQ_d4); (exact .inr rfl); (rw [Try.results8]))); (first | (focus (simp only [go_sem, ↓reduceIte, simprocAttr, t0, t3, t5, t6, t8, t9, hp, hSl, h1, h2] <;> rfl)) | exact rfl); (first | (fail_if_success (show okD _ _ _ _ _ _ _ _ _)) | (first | exact okT | exact okN | exact okE rfl)); (first | (fail_if_success (show Bel _ _)) | (focus first | exact .val _ | (simp [oneOf, Bel_iff_tup, Bel_iff_agg, Bel_iff_rsl, Bel_iff_fn, Bel_iff_rptr, Bel_val]; done)))) | (apply calTo0; (exact rfl); (iterate 2 (simp only [go_sem, ↓reduceIte, simprocAttr, t0, t3, t5, t6, t8, t9, hp, hSl, h1, h2]; rfl)); (first | exact hv | exact hT _ | exact counting_ok _ p asOf); (first | exact okT | exact okN | exact okE rfl)) | refine thenQ_n ?_ | refine thenQ_r ?_ | refine thenQ_e ?_ | refine blockQ_n ?_ | refine blockQ_r ?_ | refine blockQ_e ?_ | (apply blockQ_o; (exact rfl)) | refine Awp.seq ?_ | refine Awp.skip ?_ | refine Awp.block ?_ | refine reg (fun s => s == 8 || s == 9 || s == 10) ?_ | (apply drwE mixed (fun s => s == 8 || s == 9 || s == 10); (kernel_rfl)) | refine fin ?_ | refine Awp.ret ?_ | refine Awp.exit ?_ | ((first | (apply off; (exact rfl)) | apply condF); (first | (focus (simp only [go_sem, ↓reduceIte, simprocAttr, t0, t3, t5, t6, t8, t9, hp, hSl, h1, h2] <;> rfl)) | exact rfl)))
    all_goals first | contradiction | skip
    refine Awp.withT (fun T' => T' 5 = .rptr [iv series] 0 ∧ T' 6 = .rptr [iv time] 0 ∧ T' 8 = .mptr H.length 0 0 ∧ T' 9 = .mptr (H.length + 1) 0 0 ∧ T' 36 = .fn (.func 32) [.rptr [.mptr p 0 0] 0, .rptr [iv asOf] 0]) ⟨by (first | (focus (simp only [go_sem, ↓reduceIte, simprocAttr, t5]; first | done | rfl)) | rfl), by (first | (focus (simp only [go_sem, ↓reduceIte, simprocAttr, t6]; first | done | rfl)) | rfl), by (first | (focus (simp only [go_sem, ↓reduceIte, simprocAttr, t8]; first | done | rfl)) | rfl), by (first | (focus (simp only [go_sem, ↓reduceIte, simprocAttr, t9]; first | done | rfl)) | rfl), by (first | (focus (simp only [go_sem, ↓reduceIte, simprocAttr]; first | done | rfl)) | rfl)⟩ ?_
    clear t0 t3 t5 t6 t8 t9 T
    rintro T ⟨t5, t6, t8, t9, t36⟩
    refine overCount (p := p) (b := b) (S := S) (L := L) (asOf := asOf) hlen (by (first | (focus (simp only [go_sem, ↓reduceIte, simprocAttr, t36]; first | done | rfl)) | rfl)) (by decide)
      (fun j K => Grow H K ∧ K[H.length]? = some (.cells [[iv 0, iv 0, iv 0, iv 0, iv 0, iv 0, iv 0, iv 0, .val (.string ⟨#[]⟩)]] 31) ∧ K[H.length + 1]? = some (.cells [[iv 0]] 32) ∧ ∀ x ∈ (cntL asOf L).take j, isST series time x = false)
      (fun K => Grow H K ∧ ∃ e, (cntL asOf L).find? (isST series time) = some e ∧ K[H.length]? = some (.cells [e.cs] 31) ∧ K[H.length + 1]? = some (.cells [[iv 0]] 32)) (fun j K h => hA.grow h.1) ?_ ?_ (fun ob => ?_) ?_ ?_ ?_
    · rw [hAl]
      rintro j K K' ⟨g1, g2, g3, g4⟩ hK
      exact ⟨⟨Nat.le_trans g1.len hK.len, fun x hx => (hK.old x (Nat.lt_of_lt_of_le hx g1.len) (by omega) (by omega) (by omega)).trans (g1.old x hx)⟩, hK.get g2 (.inl (by omega)), hK.get g3 (.inl (by omega)), g4⟩
    · rw [hAl]
      rintro K K' ⟨g1, e, g0, g2, g3⟩ hK
      exact ⟨⟨Nat.le_trans g1.len hK.len, fun x hx => (hK.old x (Nat.lt_of_lt_of_le hx g1.len) (by omega) (by omega) (by omega)).trans (g1.old x hx)⟩, e, g0, hK.get g2 (.inl (by omega)), hK.get g3 (.inl (by omega))⟩
    · exact ⟨hAG.app _, (held hA0).2.1 _, (held hA1).2.1 _, by rw [List.take_zero]; simp⟩
    · rw [hAl]
      rintro lp j e K0 K he ⟨g1, g2, g3, g4⟩ hl0 hK hKl hlp
      have hlpl := (List.getElem?_eq_some_iff.1 hlp).1
      have k1 : Grow H K := ⟨Nat.le_trans g1.len hK.len, fun x hx => (hK.old x (Nat.lt_of_lt_of_le hx g1.len) (by omega) (by omega) (by omega)).trans (g1.old x hx)⟩
      have k2 := hK.get g2 (.inl (by omega))
      have k3 := hK.get g3 (.inl (by omega))
      have hQ0 : KQ (H.length + 2 + 1) K0 K (K ++ [AObj.cells [[iv e.series, iv e.time, iv e.version, iv e.arrived, iv e.owner, iv e.free, iv e.lo, iv e.hi, .val (.string e.cause)]] 31]) := ⟨⟨List.getElem?_append_left (by omega), List.getElem?_append_left (by omega), List.getElem?_append_left (by omega)⟩, fun x _ hx => List.getElem?_append_left hx⟩
      have hQ1 := hQ0.set (s := H.length + 2) (by omega) hl0 (lp .busy)
      simp only [Ent.av, Ent.cs]
      repeat' (first | refine spD (fun _ => ?_) (fun _ => ?_) | refine spF (fun _ => ?_) (fun _ => ?_) | (apply gT; (exact rfl)) | (apply off; (exact rfl); (exact rfl)) | (apply condT; (exact rfl)) | (apply condF; (exact rfl)) | ((first | (apply stp0; (exact rfl); (exact rfl)) | (apply stpN0; (exact rfl)) | apply gT | apply condT | ((first | apply bodyQ_d0 | apply bodyQ_d1 | apply bodyQ_d2 | apply bodyQ_d3 | apply bodyQ_d4); (exact .inr rfl); (rw [Try.results8]))); (first | (focus (simp only [go_sem, ↓reduceIte, simprocAttr] <;> rfl)) | exact rfl); (first | (fail_if_success (show okD _ _ _ _ _ _ _ _ _)) | (first | exact okT | exact okN | exact okE rfl)); (first | (fail_if_success (show Bel _ _)) | (focus first | exact .val _ | (simp [oneOf, Bel_iff_tup, Bel_iff_agg, Bel_iff_rsl, Bel_iff_fn, Bel_iff_rptr, Bel_val]; done)))) | refine thenQ_n ?_ | refine thenQ_r ?_ | refine thenQ_e ?_ | refine blockQ_n ?_ | refine blockQ_r ?_ | refine blockQ_e ?_ | (apply blockQ_o; (exact rfl)) | refine Awp.seq ?_ | refine Awp.skip ?_ | refine Awp.block ?_ | refine reg (fun s => s == 8 || s == 9 || s == 10) ?_ | (apply drwE mixed (fun s => s == 8 || s == 9 || s == 10); (kernel_rfl)) | refine fin ?_ | refine Awp.ret ?_ | refine Awp.exit ?_ | ((first | (apply off; (exact rfl)) | apply condF); (first | (focus (simp only [go_sem, ↓reduceIte, simprocAttr] <;> rfl)) | exact rfl)))
      all_goals first | contradiction | skip
      refine ⟨rfl, (held hlp).2.1 _, ?_⟩
      refine Awp.withT (fun T' => T' 5 = .rptr [iv series] 0 ∧ T' 6 = .rptr [iv time] 0 ∧ T' 8 = .mptr H.length 0 0 ∧ T' 9 = .mptr (H.length + 1) 0 0 ∧ T' 10 = .mptr K.length 0 0) ⟨by (first | (focus (simp only [go_sem, ↓reduceIte, simprocAttr, t5]; first | done | rfl)) | rfl), by (first | (focus (simp only [go_sem, ↓reduceIte, simprocAttr, t6]; first | done | rfl)) | rfl), by (first | (focus (simp only [go_sem, ↓reduceIte, simprocAttr, t8]; first | done | rfl)) | rfl), by (first | (focus (simp only [go_sem, ↓reduceIte, simprocAttr, t9]; first | done | rfl)) | rfl), by (first | (focus (simp only [go_sem, ↓reduceIte, simprocAttr]; first | done | rfl)) | rfl)⟩ ?_
      clear t5 t6 t8 t9 t36 T
      rintro T ⟨t5, t6, t8, t9, t10⟩
      have hx : ((K ++ [AObj.cells [[iv e.series, iv e.time, iv e.version, iv e.arrived, iv e.owner, iv e.free, iv e.lo, iv e.hi, .val (.string e.cause)]] 31]).set (H.length + 2) (lp .busy))[K.length]? = some (AObj.cells [[iv e.series, iv e.time, iv e.version, iv e.arrived, iv e.owner, iv e.free, iv e.lo, iv e.hi, .val (.string e.cause)]] 31) := by
        rw [List.getElem?_set_ne (by omega)]; exact get_new _ _
      have m2 : ((K ++ [AObj.cells [[iv e.series, iv e.time, iv e.version, iv e.arrived, iv e.owner, iv e.free, iv e.lo, iv e.hi, .val (.string e.cause)]] 31]).set (H.length + 2) (lp .busy))[H.length]? = some (.cells [[iv 0, iv 0, iv 0, iv 0, iv 0, iv 0, iv 0, iv 0, .val (.string ⟨#[]⟩)]] 31) := by
        rw [List.getElem?_set_ne (by omega)]; exact (held k2).2.1 _
      have m3 : ((K ++ [AObj.cells [[iv e.series, iv e.time, iv e.version, iv e.arrived, iv e.owner, iv e.free, iv e.lo, iv e.hi, .val (.string e.cause)]] 31]).set (H.length + 2) (lp .busy))[H.length + 1]? = some (.cells [[iv 0]] 32) := by
        rw [List.getElem?_set_ne (by omega)]; exact (held k3).2.1 _
      have mlp : ((K ++ [AObj.cells [[iv e.series, iv e.time, iv e.version, iv e.arrived, iv e.owner, iv e.free, iv e.lo, iv e.hi, .val (.string e.cause)]] 31]).set (H.length + 2) (lp .busy))[H.length + 2]? = some (lp .busy) := List.getElem?_set_self (by rw [List.length_append]; omega)
      have mG : Grow H ((K ++ [AObj.cells [[iv e.series, iv e.time, iv e.version, iv e.arrived, iv e.owner, iv e.free, iv e.lo, iv e.hi, .val (.string e.cause)]] 31]).set (H.length + 2) (lp .busy)) := (k1.app _).set (by omega) _
      generalize ((K ++ [AObj.cells [[iv e.series, iv e.time, iv e.version, iv e.arrived, iv e.owner, iv e.free, iv e.lo, iv e.hi, .val (.string e.cause)]] 31]).set (H.length + 2) (lp .busy)) = K1 at *
      have hnot : isST series time e = false → ∀ x ∈ (cntL asOf L).take (j + 1), isST series time x = false := fun h x hx => by
        rw [List.take_add_one, he] at hx
        rcases List.mem_append.1 hx with hx | hx
        · exact g4 x hx
        · simp at hx; rw [hx]; exact h
      have endN : isST series time e = false → K1[H.length + 2]? = some (lp .busy) ∧ KQ (H.length + 2 + 1) K0 K K1 ∧ Grow H (K1.set (H.length + 2) (lp .ready)) ∧ (K1.set (H.length + 2) (lp .ready))[H.length]? = some (.cells [[iv 0, iv 0, iv 0, iv 0, iv 0, iv 0, iv 0, iv 0, .val (.string ⟨#[]⟩)]] 31) ∧ (K1.set (H.length + 2) (lp .ready))[H.length + 1]? = some (.cells [[iv 0]] 32) ∧ ∀ x ∈ (cntL asOf L).take (j + 1), isST series time x = false := fun h =>
        ⟨mlp, hQ1, mG.set (by omega) _, by rw [List.getElem?_set_ne (by omega)]; exact m2, by rw [List.getElem?_set_ne (by omega)]; exact m3, hnot h⟩
      by_cases hs1 : e.series = series
      · by_cases hs2 : e.time = time
        · have hst : isST series time e = true := by unfold isST; rw [decide_eq_true_eq]; exact ⟨hs1, hs2⟩
          have hm3 : ∀ c, (K1.set H.length c)[H.length + 1]? = some (.cells [[iv 0]] 32) := fun c => by rw [List.getElem?_set_ne (by omega)]; exact m3
          have hx' := hx
          rw [hs1, hs2] at hx'
          repeat' (first | refine spD (fun _ => ?_) (fun _ => ?_) | refine spF (fun _ => ?_) (fun _ => ?_) | (apply gT; (exact rfl)) | (apply off; (exact rfl); (exact rfl)) | (apply condT; (exact rfl)) | (apply condF; (exact rfl)) | ((first | (apply stp0; (exact rfl); (exact rfl)) | (apply stpN0; (exact rfl)) | apply gT | apply condT | ((first | apply bodyQ_d0 | apply bodyQ_d1 | apply bodyQ_d2 | apply bodyQ_d3 | apply bodyQ_d4); (exact .inr rfl); (rw [Try.results8]))); (first | (focus (simp only [go_sem, ↓reduceIte, simprocAttr, t5, t6, t8, t9, t10, hx', m2, hm3, beq_self_eq_true] <;> rfl)) | exact rfl); (first | (fail_if_success (show okD _ _ _ _ _ _ _ _ _)) | (first | exact okT | exact okN | exact okE rfl)); (first | (fail_if_success (show Bel _ _)) | (focus first | exact .val _ | (simp [oneOf, Bel_iff_tup, Bel_iff_agg, Bel_iff_rsl, Bel_iff_fn, Bel_iff_rptr, Bel_val]; done)))) | refine thenQ_n ?_ | refine thenQ_r ?_ | refine thenQ_e ?_ | refine blockQ_n ?_ | refine blockQ_r ?_ | refine blockQ_e ?_ | (apply blockQ_o; (exact rfl)) | refine Awp.seq ?_ | refine Awp.skip ?_ | refine Awp.block ?_ | refine reg (fun s => s == 8 || s == 9 || s == 10) ?_ | (apply drwE mixed (fun s => s == 8 || s == 9 || s == 10); (kernel_rfl)) | refine fin ?_ | refine Awp.ret ?_ | refine Awp.exit ?_ | ((first | (apply off; (exact rfl)) | apply condF); (first | (focus (simp only [go_sem, ↓reduceIte, simprocAttr, t5, t6, t8, t9, t10, hx', m2, hm3, beq_self_eq_true] <;> rfl)) | exact rfl)))
          all_goals first | contradiction | skip
          refine ⟨?_, (hQ1.set (by omega) (by omega) _).set (by omega) (by omega) _, ((mG.set (Nat.le_refl _) _).set (by omega) _).set (by omega) _, e, find_take g4 he hst, ?_, ?_⟩
          · rw [List.getElem?_set_ne (by omega), List.getElem?_set_ne (by omega)]; exact mlp
          · rw [List.getElem?_set_ne (by omega), List.getElem?_set_ne (by omega), (heldS m2).1]
            simp only [Ent.cs, hs1, hs2]
          · rw [List.getElem?_set_ne (by omega), (heldS (hm3 _)).1]
        · have hst : isST series time e = false := by unfold isST; rw [decide_eq_false_iff_not]; exact fun h => hs2 h.2
          have hx' := hx
          rw [hs1] at hx'
          repeat' (first | refine spD (fun _ => ?_) (fun _ => ?_) | refine spF (fun _ => ?_) (fun _ => ?_) | (apply gT; (exact rfl)) | (apply off; (exact rfl); (exact rfl)) | (apply condT; (exact rfl)) | (apply condF; (exact rfl)) | ((first | (apply stp0; (exact rfl); (exact rfl)) | (apply stpN0; (exact rfl)) | apply gT | apply condT | ((first | apply bodyQ_d0 | apply bodyQ_d1 | apply bodyQ_d2 | apply bodyQ_d3 | apply bodyQ_d4); (exact .inr rfl); (rw [Try.results8]))); (first | (focus (simp only [go_sem, ↓reduceIte, simprocAttr, t5, t6, t8, t9, t10, hx', hs2, beq_self_eq_true] <;> rfl)) | exact rfl); (first | (fail_if_success (show okD _ _ _ _ _ _ _ _ _)) | (first | exact okT | exact okN | exact okE rfl)); (first | (fail_if_success (show Bel _ _)) | (focus first | exact .val _ | (simp [oneOf, Bel_iff_tup, Bel_iff_agg, Bel_iff_rsl, Bel_iff_fn, Bel_iff_rptr, Bel_val]; done)))) | refine thenQ_n ?_ | refine thenQ_r ?_ | refine thenQ_e ?_ | refine blockQ_n ?_ | refine blockQ_r ?_ | refine blockQ_e ?_ | (apply blockQ_o; (exact rfl)) | refine Awp.seq ?_ | refine Awp.skip ?_ | refine Awp.block ?_ | refine reg (fun s => s == 8 || s == 9 || s == 10) ?_ | (apply drwE mixed (fun s => s == 8 || s == 9 || s == 10); (kernel_rfl)) | refine fin ?_ | refine Awp.ret ?_ | refine Awp.exit ?_ | ((first | (apply off; (exact rfl)) | apply condF); (first | (focus (simp only [go_sem, ↓reduceIte, simprocAttr, t5, t6, t8, t9, t10, hx', hs2, beq_self_eq_true] <;> rfl)) | exact rfl)))
          all_goals first | contradiction | skip
          exact endN hst
      · have hst : isST series time e = false := by unfold isST; rw [decide_eq_false_iff_not]; exact fun h => hs1 h.1
        repeat' (first | refine spD (fun _ => ?_) (fun _ => ?_) | refine spF (fun _ => ?_) (fun _ => ?_) | (apply gT; (exact rfl)) | (apply off; (exact rfl); (exact rfl)) | (apply condT; (exact rfl)) | (apply condF; (exact rfl)) | ((first | (apply stp0; (exact rfl); (exact rfl)) | (apply stpN0; (exact rfl)) | apply gT | apply condT | ((first | apply bodyQ_d0 | apply bodyQ_d1 | apply bodyQ_d2 | apply bodyQ_d3 | apply bodyQ_d4); (exact .inr rfl); (rw [Try.results8]))); (first | (focus (simp only [go_sem, ↓reduceIte, simprocAttr, t5, t6, t8, t9, t10, hx, hs1] <;> rfl)) | exact rfl); (first | (fail_if_success (show okD _ _ _ _ _ _ _ _ _)) | (first | exact okT | exact okN | exact okE rfl)); (first | (fail_if_success (show Bel _ _)) | (focus first | exact .val _ | (simp [oneOf, Bel_iff_tup, Bel_iff_agg, Bel_iff_rsl, Bel_iff_fn, Bel_iff_rptr, Bel_val]; done)))) | refine thenQ_n ?_ | refine thenQ_r ?_ | refine thenQ_e ?_ | refine blockQ_n ?_ | refine blockQ_r ?_ | refine blockQ_e ?_ | (apply blockQ_o; (exact rfl)) | refine Awp.seq ?_ | refine Awp.skip ?_ | refine Awp.block ?_ | refine reg (fun s => s == 8 || s == 9 || s == 10) ?_ | (apply drwE mixed (fun s => s == 8 || s == 9 || s == 10); (kernel_rfl)) | refine fin ?_ | refine Awp.ret ?_ | refine Awp.exit ?_ | ((first | (apply off; (exact rfl)) | apply condF); (first | (focus (simp only [go_sem, ↓reduceIte, simprocAttr, t5, t6, t8, t9, t10, hx, hs1] <;> rfl)) | exact rfl)))
        all_goals first | contradiction | skip
        exact endN hst
    · rintro H1 ob ⟨g1, g2, g3, g4⟩ hlp
      rw [List.take_length] at g4
      rw [hAl]
      rw [find_no g4] at good
      simp only at good
      rw [good]
      have g2' : (H1.set (H.length + 2) .dead)[H.length]? = _ := (List.getElem?_set_ne (by omega)).trans g2
      have g3' : (H1.set (H.length + 2) .dead)[H.length + 1]? = _ := (List.getElem?_set_ne (by omega)).trans g3
      have g1' := g1.set (s := H.length + 2) (by omega) .dead
      generalize H1.set (H.length + 2) .dead = K at *
      have k2 : ∀ c, (K.set H.length c)[H.length + 1]? = some (.cells [[iv 0]] 32) := fun c => by rw [List.getElem?_set_ne (by omega)]; exact g3'
      have k3 : ∀ c d, ((K.set H.length c).set (H.length + 1) d)[H.length]? = some c := fun c d => by rw [List.getElem?_set_ne (by omega)]; exact (heldS g2').1 _
      have k4 : ∀ c d, ((K.set H.length c).set (H.length + 1) d)[H.length + 1]? = some d := fun c d => (heldS (k2 c)).1 _
      repeat' (first | refine spD (fun _ => ?_) (fun _ => ?_) | refine spF (fun _ => ?_) (fun _ => ?_) | (apply gT; (exact rfl)) | (apply off; (exact rfl); (exact rfl)) | (apply condT; (exact rfl)) | (apply condF; (exact rfl)) | ((first | (apply stp0; (exact rfl); (exact rfl)) | (apply stpN0; (exact rfl)) | apply gT | apply condT); (first | (focus (simp only [go_sem, ↓reduceIte, simprocAttr, t8, t9, g2', k2] <;> rfl)) | exact rfl); (first | (fail_if_success (show okD _ _ _ _ _ _ _ _ _)) | (first | exact okT | exact okN | exact okE rfl))) | refine thenQ_n ?_ | refine thenQ_r ?_ | refine thenQ_e ?_ | refine blockQ_n ?_ | refine blockQ_r ?_ | refine blockQ_e ?_ | (apply blockQ_o; (exact rfl)) | refine Awp.seq ?_ | refine Awp.skip ?_ | refine Awp.block ?_ | refine reg (fun s => s == 8 || s == 9 || s == 10) ?_ | (apply drwE mixed (fun s => s == 8 || s == 9 || s == 10); (kernel_rfl)) | refine fin ?_ | refine Awp.ret ?_ | refine Awp.exit ?_ | ((first | (apply off; (exact rfl)) | apply condF); (first | (focus (simp only [go_sem, ↓reduceIte, simprocAttr, t8, t9, g2', k2] <;> rfl)) | exact rfl)))
      all_goals first | contradiction | skip
      exact bodyQ_mk (vs := [zeroE.av, iv 5]) (.inr rfl) (by rw [Try.results8]; first | (simp only [go_sem, ↓reduceIte, simprocAttr, t8, t9, k3, k4]; done) | (simp only [go_sem, ↓reduceIte, simprocAttr, t8, t9, k3, k4]; rfl)) (Vs.refl _ _ _) ⟨rfl, (g1'.set (Nat.le_refl _) _).set (by omega) _⟩
    · rintro H1 ⟨g1, e, g0, g2, g3⟩
      rw [g0] at good
      simp only at good
      rw [good]
      simp only [Ent.cs] at g2
      repeat' (first | refine spD (fun _ => ?_) (fun _ => ?_) | refine spF (fun _ => ?_) (fun _ => ?_) | (apply gT; (exact rfl)) | (apply off; (exact rfl); (exact rfl)) | (apply condT; (exact rfl)) | (apply condF; (exact rfl)) | ((first | (apply stp0; (exact rfl); (exact rfl)) | (apply stpN0; (exact rfl)) | apply gT | apply condT); (first | (focus (simp only [go_sem, ↓reduceIte, simprocAttr] <;> rfl)) | exact rfl); (first | (fail_if_success (show okD _ _ _ _ _ _ _ _ _)) | (first | exact okT | exact okN | exact okE rfl))) | refine thenQ_n ?_ | refine thenQ_r ?_ | refine thenQ_e ?_ | refine blockQ_n ?_ | refine blockQ_r ?_ | refine blockQ_e ?_ | (apply blockQ_o; (exact rfl)) | refine Awp.seq ?_ | refine Awp.skip ?_ | refine Awp.block ?_ | refine reg (fun s => s == 8 || s == 9 || s == 10) ?_ | (apply drwE mixed (fun s => s == 8 || s == 9 || s == 10); (kernel_rfl)) | refine fin ?_ | refine Awp.ret ?_ | refine Awp.exit ?_ | ((first | (apply off; (exact rfl)) | apply condF); (first | (focus (simp only [go_sem, ↓reduceIte, simprocAttr] <;> rfl)) | exact rfl)))
      all_goals first | contradiction | skip
      exact bodyQ_mk (vs := [e.av, iv 0]) (.inr rfl) (by rw [Try.results8]; first | (simp only [go_sem, ↓reduceIte, simprocAttr, t8, t9, g2, g3]; done) | (simp only [go_sem, ↓reduceIte, simprocAttr, t8, t9, g2, g3]; rfl)) (Vs.refl _ _ _) ⟨rfl, g1⟩

end Go.Proofs.Ytdmgljlabigljaa.Ab
