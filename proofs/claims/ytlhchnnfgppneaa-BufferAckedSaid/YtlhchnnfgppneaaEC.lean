/- Inboxes: Take. -/
import Derived.Test.YtlhchnnfgppneaaEB
import Derived.Test.YtlhchnnfgppneaaN6
namespace Go.Proofs.Ytlhchnnfgppneaa.Ab
open Go Go.RowKit Go.Proofs
set_option linter.unusedSimpArgs false
set_option linter.unusedVariables false
attribute [local irreducible] Awp wpO thenQ blockQ bodyQ ACalls stepA

/-- nothing else has turned -/
structure FrM (m : Nat) (H H' : Hp) : Prop where
  len : H.length ≤ H'.length
  old : ∀ j, j < H.length → j ≠ m → H'[j]? = H[j]?
theorem FrM.refl (m : Nat) (H : Hp) : FrM m H H := ⟨Nat.le_refl _, fun _ _ _ => rfl⟩
theorem FrM.trans {m : Nat} {H H' H'' : Hp} (h : FrM m H H') (k : FrM m H' H'') : FrM m H H'' := ⟨Nat.le_trans h.len k.len, fun j hj e => (k.old j (Nat.lt_of_lt_of_le hj h.len) e).trans (h.old j hj e)⟩
/-- an inbox holds these records -/
structure Ibx (H : Hp) (m : Nat) (R : List Item) : Prop where
  srt : srtR R
  ok : ∀ r ∈ R, r.ok
  at_ : ∃ kr, H[m]? = some (.amap (ents kr)) ∧ MapIs kr (itF R)
theorem Ibx.grow {H H' : Hp} {m : Nat} {R : List Item} (h : Ibx H m R) (hG : Grow H H') : Ibx H' m R := by
  obtain ⟨kr, h1, h2⟩ := h.at_
  exact ⟨h.srt, h.ok, kr, hG.get h1, h2⟩

theorem tk_cases (R : List Item) (r : Item) : (¬ r.ok ∧ r.code = 2 ∧ tkE R r = 2 ∧ tkB R r = false ∧ tkR R r = R) ∨ (r.ok ∧ r.code = 0 ∧
    ((r.id ∈ idsR R ∧ tkE R r = 0 ∧ tkB R r = false ∧ tkR R r = R) ∨ (r.id ∉ idsR R ∧
      ((256 ≤ R.length ∧ tkE R r = 11 ∧ tkB R r = false ∧ tkR R r = R) ∨ (R.length < 256 ∧ tkE R r = 0 ∧ tkB R r = true))))) := by
  unfold tkE tkR tkB Item.code
  by_cases h : r.ok
  · right
    refine ⟨h, if_pos h, ?_⟩
    rw [if_neg (fun n => n h)]
    by_cases k : r.id ∈ idsR R
    · left
      exact ⟨k, if_pos k, by simp [k], by simp [k]⟩
    · right
      refine ⟨k, ?_⟩
      rw [if_neg k]
      by_cases n : 256 ≤ R.length
      · left; exact ⟨n, if_pos n, by simp; omega, by rw [if_neg (by simp; omega)]⟩
      · right; exact ⟨by omega, if_neg n, by simp [h, k]; omega⟩
  · left
    exact ⟨h, if_neg h, if_pos h, by simp [h], by simp [h]⟩

theorem ents_len (ks : List (Int × AV)) : (ents ks).length = ks.length := by simp [ents]
/-- what Take comes to -/
def TkP (H : Hp) (m : Nat) (R : List Item) (r : Item) (v1 : AV) (H1 : Hp) : Prop := v1 = .tup [bv (tkB R r), iv (tkE R r)] ∧ Ibx H1 m (tkR R r) ∧ FrM m H H1

set_option maxRecDepth 8000 in
set_option maxHeartbeats 4000000 in
theorem takeX {H : Hp} {m : Nat} {R : List Item} (hX : Ibx H m R) (r : Item) : ACalls Try.prog 40 [.rptr [.mp m] 0, .agg r.cs] H (TkP H m R r) := by
  obtain ⟨kr, hm, hk⟩ := hX.at_
  have hv := fun H => validX H m
  have hck := fun H => check_ok H r
  have hlen := mapLen hk hX.srt
  have hmm := held hm
  have hlk : ∀ H2 : Hp, H2[m]? = some (.amap (ents kr)) → lookA Try.prog 40 (.mp m) (iv r.id) true H2 = some (.tup [(getM kr r.id).getD recZ, bv (getM kr r.id).isSome]) := fun H2 h2 => (mT40.look0 h2 r.id).1
  have hgm : getM kr r.id = itF R r.id := hk.get _
  obtain ⟨q, hq⟩ : ∃ q : Item, (getM kr r.id).getD recZ = .agg q.cs := by
    rw [hgm]; unfold itF
    cases e : findR R r.id with
    | none => exact ⟨⟨0, 0, 0, 0, 0⟩, rfl⟩
    | some x => exact ⟨x, rfl⟩
  rw [hq] at hlk
  have hsm : (getM kr r.id).isSome = decide (r.id ∈ idsR R) := by
    rw [hgm]; unfold itF
    cases e : findR R r.id with
    | none => rw [decide_eq_false (findR_none.1 e)]; rfl
    | some x => rw [decide_eq_true (Classical.byContradiction fun k => by rw [findR_none.2 k] at e; cases e)]; rfl
  rw [hsm] at hlk
  have hsame : ∀ {H1 : Hp}, Grow H H1 → Ibx H1 m R ∧ FrM m H H1 := fun hG => ⟨hX.grow hG, hG.len, fun j hj _ => hG.old j hj⟩
  have he := ents_len kr
  rcases tk_cases R r with ⟨h1, hcd, c1, c2, c3⟩ | ⟨h1, hcd, h2⟩
  · rw [hcd] at hck
    have n2 : ¬ (2 : Int) = 0 := by omega
    simp only [Item.cs] at hck ⊢
    refine ACalls.of_body Try.func40 rfl (by kernel_rfl) (by rw [Try.ntmps40]; simp) ?_; rw [Try.ntmps40]
    repeat' (first | refine spD (fun _ => ?_) (fun _ => ?_) | refine spF (fun _ => ?_) (fun _ => ?_) | (apply gT; (exact rfl)) | (apply off; (exact rfl); (exact rfl)) | (apply condT; (exact rfl)) | (apply condF; (exact rfl)) | ((first | (apply stp0; (exact rfl); (exact rfl)) | (apply stpN0; (exact rfl)) | apply gT | apply condT); (first | (focus (simp only [go_sem, ↓reduceIte, simprocAttr, n2] <;> rfl)) | exact rfl); (first | (fail_if_success (show okD _ _ _ _ _ _ _ _ _)) | (first | exact okT | exact okN | exact okE rfl))) | (apply calTo0; (exact rfl); (iterate 2 (simp only [go_sem, ↓reduceIte, simprocAttr, n2]; rfl)); (first | exact hv _ | exact hck _); (first | exact okT | exact okN | exact okE rfl)) | refine thenQ_n ?_ | refine thenQ_r ?_ | refine thenQ_e ?_ | refine blockQ_n ?_ | refine blockQ_r ?_ | refine blockQ_e ?_ | (apply blockQ_o; (exact rfl)) | refine Awp.seq ?_ | refine Awp.skip ?_ | refine Awp.block ?_ | refine reg (fun s => s == 7) ?_ | (apply drwE mixed (fun s => s == 7); (kernel_rfl)) | refine fin ?_ | refine Awp.ret ?_ | refine Awp.exit ?_ | ((first | (apply off; (exact rfl)) | apply condF); (first | (focus (simp only [go_sem, ↓reduceIte, simprocAttr, n2] <;> rfl)) | exact rfl)))
    all_goals first | contradiction | (exfalso; omega) | skip
    exact bodyQ_mk (vs := [bv false, iv 2]) (.inr rfl) (by rw [Try.results40]; simp only [go_sem, ↓reduceIte, simprocAttr]) (Vs.refl _ _ _) ⟨by rw [c1, c2]; rfl, by rw [c3]; exact hsame (Grow.refl _)⟩
  · rw [hcd] at hck
    simp only [Item.cs] at hck hlk ⊢
    have hl0 := hlk H hm
    have hG := (Grow.refl H).app [.cells [[iv q.id, iv q.cls, iv q.made, iv q.size, iv q.pk]] 23]
    rcases h2 with ⟨hin, c1, c2, c3⟩ | ⟨hin, h3⟩
    · rw [decide_eq_true hin] at hlk hl0
      refine ACalls.of_body Try.func40 rfl (by kernel_rfl) (by rw [Try.ntmps40]; simp) ?_; rw [Try.ntmps40]
      repeat' ((fail_if_success (apply stopR (id := 7))); (fail_if_success (apply stopS (id := 7))); first | refine spD (fun _ => ?_) (fun _ => ?_) | refine spF (fun _ => ?_) (fun _ => ?_) | (apply gT; (exact rfl)) | (apply off; (exact rfl); (exact rfl)) | (apply condT; (exact rfl)) | (apply condF; (exact rfl)) | ((first | (apply stp0; (exact rfl); (exact rfl)) | (apply stpN0; (exact rfl)) | apply gT | apply condT | ((first | apply bodyQ_d0 | apply bodyQ_d1 | apply bodyQ_d2 | apply bodyQ_d3 | apply bodyQ_d4); (exact .inr rfl); (rw [Try.results40]))); (first | (focus (simp only [go_sem, ↓reduceIte, simprocAttr, hm, hl0, hlk, hmm] <;> rfl)) | exact rfl); (first | (fail_if_success (show okD _ _ _ _ _ _ _ _ _)) | (first | exact trivial | exact ⟨fun _ => rfl, fun _ _ => rfl, fun h => Bool.noConfusion (show false = true from h)⟩ | (refine ⟨fun _ => rfl, fun _ _ => rfl, fun _ H2 hk => ?_⟩; have e := (hk (m) (beq_self_eq_true _)).trans ((by first | exact hm | exact hmm.2.1 _)); unfold PerfTo; simp only [callOf]; (focus first | (simp only [go_sem, ↓reduceIte, simprocAttr, hm, hl0, hlk, hmm, e]; done) | (simp only [go_sem, ↓reduceIte, simprocAttr, hm, hl0, hlk, hmm, e]; rfl))) | (refine ⟨fun h => Bool.noConfusion (show true = false from h), fun b hQ => ?_, fun h => Bool.noConfusion (show false = true from h)⟩; have hQ' := eq_of_beq hQ; subst hQ'; first | (simp only [set_new, hmm, hm]) | (simp only [hmm, hm])))); (first | (fail_if_success (show Bel _ _)) | (focus first | exact .val _ | (simp [oneOf, Bel_iff_tup, Bel_iff_agg, Bel_iff_rsl, Bel_iff_fn, Bel_iff_rptr, Bel_val]; done)))) | (apply calTo0; (exact rfl); (iterate 2 (simp only [go_sem, ↓reduceIte, simprocAttr, hm, hl0, hlk, hmm]; rfl)); (first | exact hv _ | exact hck _); (first | exact trivial | exact ⟨fun _ => rfl, fun _ _ => rfl, fun h => Bool.noConfusion (show false = true from h)⟩ | (refine ⟨fun _ => rfl, fun _ _ => rfl, fun _ H2 hk => ?_⟩; have e := (hk (m) (beq_self_eq_true _)).trans ((by first | exact hm | exact hmm.2.1 _)); unfold PerfTo; simp only [callOf]; (focus first | (simp only [go_sem, ↓reduceIte, simprocAttr, hm, hl0, hlk, hmm, e]; done) | (simp only [go_sem, ↓reduceIte, simprocAttr, hm, hl0, hlk, hmm, e]; rfl))) | (refine ⟨fun h => Bool.noConfusion (show true = false from h), fun b hQ => ?_, fun h => Bool.noConfusion (show false = true from h)⟩; have hQ' := eq_of_beq hQ; subst hQ'; first | (simp only [set_new, hmm, hm]) | (simp only [hmm, hm])))) | refine thenQ_n ?_ | refine thenQ_r ?_ | refine thenQ_e ?_ | refine blockQ_n ?_ | refine blockQ_r ?_ | refine blockQ_e ?_ | (apply blockQ_o; (exact rfl)) | refine Awp.seq ?_ | refine Awp.skip ?_ | refine Awp.block ?_ | refine reg (fun s => s == 7) ?_ | (apply drwL mixed (fun s => s == 7) ⟨fun i => i == 10 || i == 11, fun i => i == 3 || i == 5 || i == 6, fun b => b == m⟩; (exact rfl); (kernel_rfl); (kernel_rfl); simp only [List.pop_toArray, List.dropLast_cons_cons, List.dropLast_singleton, List.map_cons, List.map_nil]) | refine fin ?_ | refine Awp.ret ?_ | refine Awp.exit ?_ | ((first | (apply off; (exact rfl)) | apply condF); (first | (focus (simp only [go_sem, ↓reduceIte, simprocAttr, hm, hl0, hlk, hmm] <;> rfl)) | exact rfl)))
      all_goals first | contradiction | (exfalso; omega) | skip
      repeat' (first | refine spD (fun _ => ?_) (fun _ => ?_) | refine spF (fun _ => ?_) (fun _ => ?_) | (apply gT; (exact rfl)) | (apply off; (exact rfl); (exact rfl)) | (apply condT; (exact rfl)) | (apply condF; (exact rfl)) | ((first | (apply stp0; (exact rfl); (exact rfl)) | (apply stpN0; (exact rfl)) | apply gT | apply condT); (first | (focus (simp only [go_sem, ↓reduceIte, simprocAttr] <;> rfl)) | exact rfl); (first | (fail_if_success (show okD _ _ _ _ _ _ _ _ _)) | (first | exact okT | exact okN | exact okE rfl))) | refine thenQ_n ?_ | refine thenQ_r ?_ | refine thenQ_e ?_ | refine blockQ_n ?_ | refine blockQ_r ?_ | refine blockQ_e ?_ | (apply blockQ_o; (exact rfl)) | refine Awp.seq ?_ | refine Awp.skip ?_ | refine Awp.block ?_ | refine reg (fun s => s == 7) ?_ | (apply drwE mixed (fun s => s == 7); (kernel_rfl)) | refine fin ?_ | refine Awp.ret ?_ | refine Awp.exit ?_ | ((first | (apply off; (exact rfl)) | apply condF); (first | (focus (simp only [go_sem, ↓reduceIte, simprocAttr] <;> rfl)) | exact rfl)))
      all_goals first | contradiction | (exfalso; omega) | skip
      exact bodyQ_mk (vs := [bv false, iv 0]) (.inr rfl) (by rw [Try.results40]; simp only [go_sem, ↓reduceIte, simprocAttr]) (Vs.refl _ _ _) ⟨by rw [c1, c2]; rfl, by rw [c3]; exact hsame hG⟩
    · rw [decide_eq_false hin] at hlk hl0
      refine ACalls.of_body Try.func40 rfl (by kernel_rfl) (by rw [Try.ntmps40]; simp) ?_; rw [Try.ntmps40]
      repeat' ((fail_if_success (apply stopR (id := 7))); (fail_if_success (apply stopS (id := 7))); first | refine spD (fun _ => ?_) (fun _ => ?_) | refine spF (fun _ => ?_) (fun _ => ?_) | (apply gT; (exact rfl)) | (apply off; (exact rfl); (exact rfl)) | (apply condT; (exact rfl)) | (apply condF; (exact rfl)) | ((first | (apply stp0; (exact rfl); (exact rfl)) | (apply stpN0; (exact rfl)) | apply gT | apply condT | ((first | apply bodyQ_d0 | apply bodyQ_d1 | apply bodyQ_d2 | apply bodyQ_d3 | apply bodyQ_d4); (exact .inr rfl); (rw [Try.results40]))); (first | (focus (simp only [go_sem, ↓reduceIte, simprocAttr, hm, hl0, hlk, hmm] <;> rfl)) | exact rfl); (first | (fail_if_success (show okD _ _ _ _ _ _ _ _ _)) | (first | exact trivial | exact ⟨fun _ => rfl, fun _ _ => rfl, fun h => Bool.noConfusion (show false = true from h)⟩ | (refine ⟨fun _ => rfl, fun _ _ => rfl, fun _ H2 hk => ?_⟩; have e := (hk (m) (beq_self_eq_true _)).trans ((by first | exact hm | exact hmm.2.1 _)); unfold PerfTo; simp only [callOf]; (focus first | (simp only [go_sem, ↓reduceIte, simprocAttr, hm, hl0, hlk, hmm, e]; done) | (simp only [go_sem, ↓reduceIte, simprocAttr, hm, hl0, hlk, hmm, e]; rfl))) | (refine ⟨fun h => Bool.noConfusion (show true = false from h), fun b hQ => ?_, fun h => Bool.noConfusion (show false = true from h)⟩; have hQ' := eq_of_beq hQ; subst hQ'; first | (simp only [set_new, hmm, hm]) | (simp only [hmm, hm])))); (first | (fail_if_success (show Bel _ _)) | (focus first | exact .val _ | (simp [oneOf, Bel_iff_tup, Bel_iff_agg, Bel_iff_rsl, Bel_iff_fn, Bel_iff_rptr, Bel_val]; done)))) | (apply calTo0; (exact rfl); (iterate 2 (simp only [go_sem, ↓reduceIte, simprocAttr, hm, hl0, hlk, hmm]; rfl)); (first | exact hv _ | exact hck _); (first | exact trivial | exact ⟨fun _ => rfl, fun _ _ => rfl, fun h => Bool.noConfusion (show false = true from h)⟩ | (refine ⟨fun _ => rfl, fun _ _ => rfl, fun _ H2 hk => ?_⟩; have e := (hk (m) (beq_self_eq_true _)).trans ((by first | exact hm | exact hmm.2.1 _)); unfold PerfTo; simp only [callOf]; (focus first | (simp only [go_sem, ↓reduceIte, simprocAttr, hm, hl0, hlk, hmm, e]; done) | (simp only [go_sem, ↓reduceIte, simprocAttr, hm, hl0, hlk, hmm, e]; rfl))) | (refine ⟨fun h => Bool.noConfusion (show true = false from h), fun b hQ => ?_, fun h => Bool.noConfusion (show false = true from h)⟩; have hQ' := eq_of_beq hQ; subst hQ'; first | (simp only [set_new, hmm, hm]) | (simp only [hmm, hm])))) | refine thenQ_n ?_ | refine thenQ_r ?_ | refine thenQ_e ?_ | refine blockQ_n ?_ | refine blockQ_r ?_ | refine blockQ_e ?_ | (apply blockQ_o; (exact rfl)) | refine Awp.seq ?_ | refine Awp.skip ?_ | refine Awp.block ?_ | refine reg (fun s => s == 7) ?_ | (apply drwL mixed (fun s => s == 7) ⟨fun i => i == 10 || i == 11, fun i => i == 3 || i == 5 || i == 6, fun b => b == m⟩; (exact rfl); (kernel_rfl); (kernel_rfl); simp only [List.pop_toArray, List.dropLast_cons_cons, List.dropLast_singleton, List.map_cons, List.map_nil]) | refine fin ?_ | refine Awp.ret ?_ | refine Awp.exit ?_ | ((first | (apply off; (exact rfl)) | apply condF); (first | (focus (simp only [go_sem, ↓reduceIte, simprocAttr, hm, hl0, hlk, hmm] <;> rfl)) | exact rfl)))
      all_goals first | contradiction | (exfalso; omega) | skip
      refine Awp.withT (fun T' => T' 0 = .rptr [.mp m] 0 ∧ T' 3 = .rptr [iv r.id, iv r.cls, iv r.made, iv r.size, iv r.pk] 0 ∧ T' 8 = bv false) ⟨by (first | (focus (simp only [go_sem, ↓reduceIte, simprocAttr]; first | done | rfl)) | rfl), by (first | (focus (simp only [go_sem, ↓reduceIte, simprocAttr]; first | done | rfl)) | rfl), by (first | (focus (simp only [go_sem, ↓reduceIte, simprocAttr]; first | done | rfl)) | rfl)⟩ ?_
      rintro T ⟨t0, t3, t8⟩
      have hKm := hG.get hm
      generalize H ++ [AObj.cells [[iv q.id, iv q.cls, iv q.made, iv q.size, iv q.pk]] 23] = K at *
      rcases h3 with ⟨hl, c1, c2, c3⟩ | ⟨hl, c1, c2⟩
      · have hge : (R.length : Int) ≥ 256 := by omega
        repeat' (first | refine spD (fun _ => ?_) (fun _ => ?_) | refine spF (fun _ => ?_) (fun _ => ?_) | (apply gT; (exact rfl)) | (apply off; (exact rfl); (exact rfl)) | (apply condT; (exact rfl)) | (apply condF; (exact rfl)) | ((first | (apply stp0; (exact rfl); (exact rfl)) | (apply stpN0; (exact rfl)) | apply gT | apply condT); (first | (focus (simp only [go_sem, ↓reduceIte, simprocAttr, t0, t3, t8, hKm, he, hlen, hge] <;> rfl)) | exact rfl); (first | (fail_if_success (show okD _ _ _ _ _ _ _ _ _)) | (first | exact okT | exact okN | exact okE rfl))) | refine thenQ_n ?_ | refine thenQ_r ?_ | refine thenQ_e ?_ | refine blockQ_n ?_ | refine blockQ_r ?_ | refine blockQ_e ?_ | (apply blockQ_o; (exact rfl)) | refine Awp.seq ?_ | refine Awp.skip ?_ | refine Awp.block ?_ | refine reg (fun s => s == 7) ?_ | (apply drwE mixed (fun s => s == 7); (kernel_rfl)) | refine fin ?_ | refine Awp.ret ?_ | refine Awp.exit ?_ | ((first | (apply off; (exact rfl)) | apply condF); (first | (focus (simp only [go_sem, ↓reduceIte, simprocAttr, t0, t3, t8, hKm, he, hlen, hge] <;> rfl)) | exact rfl)))
        all_goals first | contradiction | (exfalso; omega) | skip
        exact bodyQ_mk (vs := [bv false, iv 11]) (.inr rfl) (by rw [Try.results40]; simp only [go_sem, ↓reduceIte, simprocAttr]) (Vs.refl _ _ _) ⟨by rw [c1, c2]; rfl, by rw [c3]; exact hsame hG⟩
      · have hge : ¬ (R.length : Int) ≥ 256 := by omega
        have hup := mT40.upd hKm r.id (.agg [iv r.id, iv r.cls, iv r.made, iv r.size, iv r.pk])
        repeat' (first | refine spD (fun _ => ?_) (fun _ => ?_) | refine spF (fun _ => ?_) (fun _ => ?_) | (apply gT; (exact rfl)) | (apply off; (exact rfl); (exact rfl)) | (apply condT; (exact rfl)) | (apply condF; (exact rfl)) | ((first | (apply stp0; (exact rfl); (exact rfl)) | (apply stpN0; (exact rfl)) | apply gT | apply condT); (first | (focus (simp only [go_sem, ↓reduceIte, simprocAttr, t0, t3, t8, hKm, he, hlen, hge, hup] <;> rfl)) | exact rfl); (first | (fail_if_success (show okD _ _ _ _ _ _ _ _ _)) | (first | exact okT | exact okN | exact okE rfl))) | refine thenQ_n ?_ | refine thenQ_r ?_ | refine thenQ_e ?_ | refine blockQ_n ?_ | refine blockQ_r ?_ | refine blockQ_e ?_ | (apply blockQ_o; (exact rfl)) | refine Awp.seq ?_ | refine Awp.skip ?_ | refine Awp.block ?_ | refine reg (fun s => s == 7) ?_ | (apply drwL mixed (fun s => s == 7) (.of fun _ => false); (exact rfl); (kernel_rfl); (kernel_rfl); simp only [List.pop_toArray, List.dropLast_cons_cons, List.dropLast_singleton, List.map_cons, List.map_nil]) | refine fin ?_ | refine Awp.ret ?_ | refine Awp.exit ?_ | ((first | (apply off; (exact rfl)) | apply condF); (first | (focus (simp only [go_sem, ↓reduceIte, simprocAttr, t0, t3, t8, hKm, he, hlen, hge, hup] <;> rfl)) | exact rfl)))
        all_goals first | contradiction | (exfalso; omega) | skip
        refine bodyQ_mk (vs := [bv true, iv 0]) (.inr rfl) (by rw [Try.results40]; simp only [go_sem, ↓reduceIte, simprocAttr]) (Vs.refl _ _ _) ⟨by rw [c1, c2]; rfl, ⟨tkR_srt hX.srt, fun y hy => ?_, _, (heldS hKm).1 _, ?_⟩, ?_⟩
        · rcases tkR_mem hy with h | ⟨rfl, h⟩
          · exact hX.ok y h
          · exact h
        · exact hk.set r.id _ fun y => by
            unfold itF
            rw [tkR_find hX.srt c2]
            split <;> rfl
        · exact ⟨by rw [List.length_set]; exact hG.len, fun j hj e => by rw [List.getElem?_set_ne (Ne.symm e)]; exact hG.old j hj⟩

end Go.Proofs.Ytlhchnnfgppneaa.Ab
