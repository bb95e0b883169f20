/- Inboxes: Take. What the library's functions behind slices.Sorted(maps.Keys(m)) are in this program (integer keys). slices.Sorted(maps.Keys(m)), integer keys: the contract. Inboxes: Records, Acks. Buffers: what Put comes to. Buffers: Put, from where the record goes into the order. Buffers: Put, its loop. -/
import Derived.Test.YtlhchnnfgppneaaYH
import Derived.Test.YtlhchnnfgppneaaYI
import Derived.Shelf.SlIterI.Sorted
import Derived.Shelf.SortM.Plain
import Derived.Shelf.SortM.SortNone
import Derived.Test.YtlhchnnfgppneaaProg
import Derived.Test.YtlhchnnfgppneaaYE
namespace Go.Proofs.Ytlhchnnfgppneaa.Ab
open Go Go.RowKit Go.Proofs
set_option linter.unusedSimpArgs false
set_option linter.unusedVariables false
attribute [local irreducible] Awp wpO thenQ blockQ bodyQ ACalls stepA

/-- nothing else has turned -/
structure FrM (m : Nat) (H H' : Hp) : Prop where
  len : H.length ≤ H'.length
  old : ∀ j, j < H.length → j ≠ m → H'[j]? = H[j]?
theorem FrM.refl (m : Nat) (H : Hp) : FrM m H H := ⟨Nat.le_refl _, fun _ _ _ => rfl⟩
theorem FrM.trans {m : Nat} {H H' H'' : Hp} (h : FrM m H H') (k : FrM m H' H'') : FrM m H H'' := ⟨Nat.le_trans h.len k.len, fun j hj e => (k.old j (Nat.lt_of_lt_of_le hj h.len) e).trans (h.old j hj e)⟩
/-- an inbox holds these records -/
structure Ibx (H : Hp) (m : Nat) (R : List Item) : Prop where
  srt : srtR R
  ok : ∀ r ∈ R, r.ok
  at_ : ∃ kr, H[m]? = some (.amap (ents kr)) ∧ MapIs kr (itF R)
theorem Ibx.grow {H H' : Hp} {m : Nat} {R : List Item} (h : Ibx H m R) (hG : Grow H H') : Ibx H' m R := by
  obtain ⟨kr, h1, h2⟩ := h.at_
  exact ⟨h.srt, h.ok, kr, hG.get h1, h2⟩

theorem tk_cases (R : List Item) (r : Item) : (¬ r.ok ∧ r.code = 2 ∧ tkE R r = 2 ∧ tkB R r = false ∧ tkR R r = R) ∨ (r.ok ∧ r.code = 0 ∧
    ((r.id ∈ idsR R ∧ tkE R r = 0 ∧ tkB R r = false ∧ tkR R r = R) ∨ (r.id ∉ idsR R ∧
      ((256 ≤ R.length ∧ tkE R r = 11 ∧ tkB R r = false ∧ tkR R r = R) ∨ (R.length < 256 ∧ tkE R r = 0 ∧ tkB R r = true))))) := by
  unfold tkE tkR tkB Item.code
  by_cases h : r.ok
  · right
    refine ⟨h, if_pos h, ?_⟩
    rw [if_neg (fun n => n h)]
    by_cases k : r.id ∈ idsR R
    · left
      exact ⟨k, if_pos k, by simp [k], by simp [k]⟩
    · right
      refine ⟨k, ?_⟩
      rw [if_neg k]
      by_cases n : 256 ≤ R.length
      · left; exact ⟨n, if_pos n, by simp; omega, by rw [if_neg (by simp; omega)]⟩
      · right; exact ⟨by omega, if_neg n, by simp [h, k]; omega⟩
  · left
    exact ⟨h, if_neg h, if_pos h, by simp [h], by simp [h]⟩

theorem ents_len (ks : List (Int × AV)) : (ents ks).length = ks.length := by simp [ents]
/-- what Take comes to -/
def TkP (H : Hp) (m : Nat) (R : List Item) (r : Item) (v1 : AV) (H1 : Hp) : Prop := v1 = .tup [bv (tkB R r), iv (tkE R r)] ∧ Ibx H1 m (tkR R r) ∧ FrM m H H1

set_option maxRecDepth 8000 in
set_option maxHeartbeats 4000000 in
theorem takeX {H : Hp} {m : Nat} {R : List Item} (hX : Ibx H m R) (r : Item) : ACalls Try.prog 40 [.rptr [.mp m] 0, .agg r.cs] H (TkP H m R r) := by
  obtain ⟨kr, hm, hk⟩ := hX.at_
  have hv := fun H => validX H m
  have hck := fun H => check_ok H r
  have hlen := mapLen hk hX.srt
  have hmm := held hm
  have hlk : ∀ H2 : Hp, H2[m]? = some (.amap (ents kr)) → lookA Try.prog 40 (.mp m) (iv r.id) true H2 = some (.tup [(getM kr r.id).getD recZ, bv (getM kr r.id).isSome]) := fun H2 h2 => (mT40.look0 h2 r.id).1
  have hgm : getM kr r.id = itF R r.id := hk.get _
  obtain ⟨q, hq⟩ : ∃ q : Item, (getM kr r.id).getD recZ = .agg q.cs := by
    rw [hgm]; unfold itF
    cases e : findR R r.id with
    | none => exact ⟨⟨0, 0, 0, 0, 0⟩, rfl⟩
    | some x => exact ⟨x, rfl⟩
  rw [hq] at hlk
  have hsm : (getM kr r.id).isSome = decide (r.id ∈ idsR R) := by
    rw [hgm]; unfold itF
    cases e : findR R r.id with
    | none => rw [decide_eq_false (findR_none.1 e)]; rfl
    | some x => rw [decide_eq_true (Classical.byContradiction fun k => by rw [findR_none.2 k] at e; cases e)]; rfl
  rw [hsm] at hlk
  have hsame : ∀ {H1 : Hp}, Grow H H1 → Ibx H1 m R ∧ FrM m H H1 := fun hG => ⟨hX.grow hG, hG.len, fun j hj _ => hG.old j hj⟩
  have he := ents_len kr
  rcases tk_cases R r with ⟨h1, hcd, c1, c2, c3⟩ | ⟨h1, hcd, h2⟩
  · rw [hcd] at hck
    have n2 : ¬ (2 : Int) = 0 := by omega
    simp only [Item.cs] at hck ⊢
    refine ACalls.of_body Try.func40 rfl (by kernel_rfl) (by rw [Try.ntmps40]; simp) ?_; rw [Try.ntmps40]
    repeat' (first | refine spD (fun _ => ?_) (fun _ => ?_) | refine spF (fun _ => ?_) (fun _ => ?_) | (apply gT; (exact rfl)) | (apply off; (exact rfl); (exact rfl)) | (apply condT; (exact rfl)) | (apply condF; (exact rfl)) | ((first | (apply stp0; (exact rfl); (exact rfl)) | (apply stpN0; (exact rfl)) | apply gT | apply condT); (first | (focus (simp only [go_sem, ↓reduceIte, simprocAttr, n2] <;> rfl)) | exact rfl); (first | (fail_if_success (show okD _ _ _ _ _ _ _ _ _)) | (first | exact okT | exact okN | exact okE rfl))) | (apply calTo0; (exact rfl); (iterate 2 (simp only [go_sem, ↓reduceIte, simprocAttr, n2]; rfl)); (first | exact hv _ | exact hck _); (first | exact okT | exact okN | exact okE rfl)) | refine thenQ_n ?_ | refine thenQ_r ?_ | refine thenQ_e ?_ | refine blockQ_n ?_ | refine blockQ_r ?_ | refine blockQ_e ?_ | (apply blockQ_o; (exact rfl)) | refine Awp.seq ?_ | refine Awp.skip ?_ | refine Awp.block ?_ | refine reg (fun s => s == 7) ?_ | (apply drwE mixed (fun s => s == 7); (kernel_rfl)) | refine fin ?_ | refine Awp.ret ?_ | refine Awp.exit ?_ | ((first | (apply off; (exact rfl)) | apply condF); (first | (focus (simp only [go_sem, ↓reduceIte, simprocAttr, n2] <;> rfl)) | exact rfl)))
    all_goals first | contradiction | (exfalso; omega) | skip
    exact bodyQ_mk (vs := [bv false, iv 2]) (.inr rfl) (by rw [Try.results40]; simp only [go_sem, ↓reduceIte, simprocAttr]) (Vs.refl _ _ _) ⟨by rw [c1, c2]; rfl, by rw [c3]; exact hsame (Grow.refl _)⟩
  · rw [hcd] at hck
    simp only [Item.cs] at hck hlk ⊢
    have hl0 := hlk H hm
    have hG := (Grow.refl H).app [.cells [[iv q.id, iv q.cls, iv q.made, iv q.size, iv q.pk]] 23]
    rcases h2 with ⟨hin, c1, c2, c3⟩ | ⟨hin, h3⟩
    · rw [decide_eq_true hin] at hlk hl0
      refine ACalls.of_body Try.func40 rfl (by kernel_rfl) (by rw [Try.ntmps40]; simp) ?_; rw [Try.ntmps40]
      repeat' ((fail_if_success (apply stopR (id := 7))); (fail_if_success (apply stopS (id := 7))); first | refine spD (fun _ => ?_) (fun _ => ?_) | refine spF (fun _ => ?_) (fun _ => ?_) | (apply gT; (exact rfl)) | (apply off; (exact rfl); (exact rfl)) | (apply condT; (exact rfl)) | (apply condF; (exact rfl)) | ((first | (apply stp0; (exact rfl); (exact rfl)) | (apply stpN0; (exact rfl)) | apply gT | apply condT | ((first | apply bodyQ_d0 | apply bodyQ_d1 | apply bodyQ_d2 | apply bodyQ_d3 | apply bodyQ_d4); (exact .inr rfl); (rw [Try.results40]))); (first | (focus (simp only [go_sem, ↓reduceIte, simprocAttr, hm, hl0, hlk, hmm] <;> rfl)) | exact rfl); (first | (fail_if_success (show okD _ _ _ _ _ _ _ _ _)) | (first | exact trivial | exact ⟨fun _ => rfl, fun _ _ => rfl, fun h => Bool.noConfusion (show false = true from h)⟩ | (refine ⟨fun _ => rfl, fun _ _ => rfl, fun _ H2 hk => ?_⟩; have e := (hk (m) (beq_self_eq_true _)).trans ((by first | exact hm | exact hmm.2.1 _)); unfold PerfTo; simp only [callOf]; (focus first | (simp only [go_sem, ↓reduceIte, simprocAttr, hm, hl0, hlk, hmm, e]; done) | (simp only [go_sem, ↓reduceIte, simprocAttr, hm, hl0, hlk, hmm, e]; rfl))) | (refine ⟨fun h => Bool.noConfusion (show true = false from h), fun b hQ => ?_, fun h => Bool.noConfusion (show false = true from h)⟩; have hQ' := eq_of_beq hQ; subst hQ'; first | (simp only [set_new, hmm, hm]) | (simp only [hmm, hm])))); (first | (fail_if_success (show Bel _ _)) | (focus first | exact .val _ | (simp [oneOf, Bel_iff_tup, Bel_iff_agg, Bel_iff_rsl, Bel_iff_fn, Bel_iff_rptr, Bel_val]; done)))) | (apply calTo0; (exact rfl); (iterate 2 (simp only [go_sem, ↓reduceIte, simprocAttr, hm, hl0, hlk, hmm]; rfl)); (first | exact hv _ | exact hck _); (first | exact trivial | exact ⟨fun _ => rfl, fun _ _ => rfl, fun h => Bool.noConfusion (show false = true from h)⟩ | (refine ⟨fun _ => rfl, fun _ _ => rfl, fun _ H2 hk => ?_⟩; have e := (hk (m) (beq_self_eq_true _)).trans ((by first | exact hm | exact hmm.2.1 _)); unfold PerfTo; simp only [callOf]; (focus first | (simp only [go_sem, ↓reduceIte, simprocAttr, hm, hl0, hlk, hmm, e]; done) | (simp only [go_sem, ↓reduceIte, simprocAttr, hm, hl0, hlk, hmm, e]; rfl))) | (refine ⟨fun h => Bool.noConfusion (show true = false from h), fun b hQ => ?_, fun h => Bool.noConfusion (show false = true from h)⟩; have hQ' := eq_of_beq hQ; subst hQ'; first | (simp only [set_new, hmm, hm]) | (simp only [hmm, hm])))) | refine thenQ_n ?_ | refine thenQ_r ?_ | refine thenQ_e ?_ | refine blockQ_n ?_ | refine blockQ_r ?_ | refine blockQ_e ?_ | (apply blockQ_o; (exact rfl)) | refine Awp.seq ?_ | refine Awp.skip ?_ | refine Awp.block ?_ | refine reg (fun s => s == 7) ?_ | (apply drwL mixed (fun s => s == 7) ⟨fun i => i == 10 || i == 11, fun i => i == 3 || i == 5 || i == 6, fun b => b == m⟩; (exact rfl); (kernel_rfl); (kernel_rfl); simp only [List.pop_toArray, List.dropLast_cons_cons, List.dropLast_singleton, List.map_cons, List.map_nil]) | refine fin ?_ | refine Awp.ret ?_ | refine Awp.exit ?_ | ((first | (apply off; (exact rfl)) | apply condF); (first | (focus (simp only [go_sem, ↓reduceIte, simprocAttr, hm, hl0, hlk, hmm] <;> rfl)) | exact rfl)))
      all_goals first | contradiction | (exfalso; omega) | skip
      repeat' (first | refine spD (fun _ => ?_) (fun _ => ?_) | refine spF (fun _ => ?_) (fun _ => ?_) | (apply gT; (exact rfl)) | (apply off; (exact rfl); (exact rfl)) | (apply condT; (exact rfl)) | (apply condF; (exact rfl)) | ((first | (apply stp0; (exact rfl); (exact rfl)) | (apply stpN0; (exact rfl)) | apply gT | apply condT); (first | (focus (simp only [go_sem, ↓reduceIte, simprocAttr] <;> rfl)) | exact rfl); (first | (fail_if_success (show okD _ _ _ _ _ _ _ _ _)) | (first | exact okT | exact okN | exact okE rfl))) | refine thenQ_n ?_ | refine thenQ_r ?_ | refine thenQ_e ?_ | refine blockQ_n ?_ | refine blockQ_r ?_ | refine blockQ_e ?_ | (apply blockQ_o; (exact rfl)) | refine Awp.seq ?_ | refine Awp.skip ?_ | refine Awp.block ?_ | refine reg (fun s => s == 7) ?_ | (apply drwE mixed (fun s => s == 7); (kernel_rfl)) | refine fin ?_ | refine Awp.ret ?_ | refine Awp.exit ?_ | ((first | (apply off; (exact rfl)) | apply condF); (first | (focus (simp only [go_sem, ↓reduceIte, simprocAttr] <;> rfl)) | exact rfl)))
      all_goals first | contradiction | (exfalso; omega) | skip
      exact bodyQ_mk (vs := [bv false, iv 0]) (.inr rfl) (by rw [Try.results40]; simp only [go_sem, ↓reduceIte, simprocAttr]) (Vs.refl _ _ _) ⟨by rw [c1, c2]; rfl, by rw [c3]; exact hsame hG⟩
    · rw [decide_eq_false hin] at hlk hl0
      refine ACalls.of_body Try.func40 rfl (by kernel_rfl) (by rw [Try.ntmps40]; simp) ?_; rw [Try.ntmps40]
      repeat' ((fail_if_success (apply stopR (id := 7))); (fail_if_success (apply stopS (id := 7))); first | refine spD (fun _ => ?_) (fun _ => ?_) | refine spF (fun _ => ?_) (fun _ => ?_) | (apply gT; (exact rfl)) | (apply off; (exact rfl); (exact rfl)) | (apply condT; (exact rfl)) | (apply condF; (exact rfl)) | ((first | (apply stp0; (exact rfl); (exact rfl)) | (apply stpN0; (exact rfl)) | apply gT | apply condT | ((first | apply bodyQ_d0 | apply bodyQ_d1 | apply bodyQ_d2 | apply bodyQ_d3 | apply bodyQ_d4); (exact .inr rfl); (rw [Try.results40]))); (first | (focus (simp only [go_sem, ↓reduceIte, simprocAttr, hm, hl0, hlk, hmm] <;> rfl)) | exact rfl); (first | (fail_if_success (show okD _ _ _ _ _ _ _ _ _)) | (first | exact trivial | exact ⟨fun _ => rfl, fun _ _ => rfl, fun h => Bool.noConfusion (show false = true from h)⟩ | (refine ⟨fun _ => rfl, fun _ _ => rfl, fun _ H2 hk => ?_⟩; have e := (hk (m) (beq_self_eq_true _)).trans ((by first | exact hm | exact hmm.2.1 _)); unfold PerfTo; simp only [callOf]; (focus first | (simp only [go_sem, ↓reduceIte, simprocAttr, hm, hl0, hlk, hmm, e]; done) | (simp only [go_sem, ↓reduceIte, simprocAttr, hm, hl0, hlk, hmm, e]; rfl))) | (refine ⟨fun h => Bool.noConfusion (show true = false from h), fun b hQ => ?_, fun h => Bool.noConfusion (show false = true from h)⟩; have hQ' := eq_of_beq hQ; subst hQ'; first | (simp only [set_new, hmm, hm]) | (simp only [hmm, hm])))); (first | (fail_if_success (show Bel _ _)) | (focus first | exact .val _ | (simp [oneOf, Bel_iff_tup, Bel_iff_agg, Bel_iff_rsl, Bel_iff_fn, Bel_iff_rptr, Bel_val]; done)))) | (apply calTo0; (exact rfl); (iterate 2 (simp only [go_sem, ↓reduceIte, simprocAttr, hm, hl0, hlk, hmm]; rfl)); (first | exact hv _ | exact hck _); (first | exact trivial | exact ⟨fun _ => rfl, fun _ _ => rfl, fun h => Bool.noConfusion (show false = true from h)⟩ | (refine ⟨fun _ => rfl, fun _ _ => rfl, fun _ H2 hk => ?_⟩; have e := (hk (m) (beq_self_eq_true _)).trans ((by first | exact hm | exact hmm.2.1 _)); unfold PerfTo; simp only [callOf]; (focus first | (simp only [go_sem, ↓reduceIte, simprocAttr, hm, hl0, hlk, hmm, e]; done) | (simp only [go_sem, ↓reduceIte, simprocAttr, hm, hl0, hlk, hmm, e]; rfl))) | (refine ⟨fun h => Bool.noConfusion (show true = false from h), fun b hQ => ?_, fun h => Bool.noConfusion (show false = true from h)⟩; have hQ' := eq_of_beq hQ; subst hQ'; first | (simp only [set_new, hmm, hm]) | (simp only [hmm, hm])))) | refine thenQ_n ?_ | refine thenQ_r ?_ | refine thenQ_e ?_ | refine blockQ_n ?_ | refine blockQ_r ?_ | refine blockQ_e ?_ | (apply blockQ_o; (exact rfl)) | refine Awp.seq ?_ | refine Awp.skip ?_ | refine Awp.block ?_ | refine reg (fun s => s == 7) ?_ | (apply drwL mixed (fun s => s == 7) ⟨fun i => i == 10 || i == 11, fun i => i == 3 || i == 5 || i == 6, fun b => b == m⟩; (exact rfl); (kernel_rfl); (kernel_rfl); simp only [List.pop_toArray, List.dropLast_cons_cons, List.dropLast_singleton, List.map_cons, List.map_nil]) | refine fin ?_ | refine Awp.ret ?_ | refine Awp.exit ?_ | ((first | (apply off; (exact rfl)) | apply condF); (first | (focus (simp only [go_sem, ↓reduceIte, simprocAttr, hm, hl0, hlk, hmm] <;> rfl)) | exact rfl)))
      all_goals first | contradiction | (exfalso; omega) | skip
      refine Awp.withT (fun T' => T' 0 = .rptr [.mp m] 0 ∧ T' 3 = .rptr [iv r.id, iv r.cls, iv r.made, iv r.size, iv r.pk] 0 ∧ T' 8 = bv false) ⟨by (first | (focus (simp only [go_sem, ↓reduceIte, simprocAttr]; first | done | rfl)) | rfl), by (first | (focus (simp only [go_sem, ↓reduceIte, simprocAttr]; first | done | rfl)) | rfl), by (first | (focus (simp only [go_sem, ↓reduceIte, simprocAttr]; first | done | rfl)) | rfl)⟩ ?_
      rintro T ⟨t0, t3, t8⟩
      have hKm := hG.get hm
      generalize H ++ [AObj.cells [[iv q.id, iv q.cls, iv q.made, iv q.size, iv q.pk]] 23] = K at *
      rcases h3 with ⟨hl, c1, c2, c3⟩ | ⟨hl, c1, c2⟩
      · have hge : (R.length : Int) ≥ 256 := by omega
        repeat' (first | refine spD (fun _ => ?_) (fun _ => ?_) | refine spF (fun _ => ?_) (fun _ => ?_) | (apply gT; (exact rfl)) | (apply off; (exact rfl); (exact rfl)) | (apply condT; (exact rfl)) | (apply condF; (exact rfl)) | ((first | (apply stp0; (exact rfl); (exact rfl)) | (apply stpN0; (exact rfl)) | apply gT | apply condT); (first | (focus (simp only [go_sem, ↓reduceIte, simprocAttr, t0, t3, t8, hKm, he, hlen, hge] <;> rfl)) | exact rfl); (first | (fail_if_success (show okD _ _ _ _ _ _ _ _ _)) | (first | exact okT | exact okN | exact okE rfl))) | refine thenQ_n ?_ | refine thenQ_r ?_ | refine thenQ_e ?_ | refine blockQ_n ?_ | refine blockQ_r ?_ | refine blockQ_e ?_ | (apply blockQ_o; (exact rfl)) | refine Awp.seq ?_ | refine Awp.skip ?_ | refine Awp.block ?_ | refine reg (fun s => s == 7) ?_ | (apply drwE mixed (fun s => s == 7); (kernel_rfl)) | refine fin ?_ | refine Awp.ret ?_ | refine Awp.exit ?_ | ((first | (apply off; (exact rfl)) | apply condF); (first | (focus (simp only [go_sem, ↓reduceIte, simprocAttr, t0, t3, t8, hKm, he, hlen, hge] <;> rfl)) | exact rfl)))
        all_goals first | contradiction | (exfalso; omega) | skip
        exact bodyQ_mk (vs := [bv false, iv 11]) (.inr rfl) (by rw [Try.results40]; simp only [go_sem, ↓reduceIte, simprocAttr]) (Vs.refl _ _ _) ⟨by rw [c1, c2]; rfl, by rw [c3]; exact hsame hG⟩
      · have hge : ¬ (R.length : Int) ≥ 256 := by omega
        have hup := mT40.upd hKm r.id (.agg [iv r.id, iv r.cls, iv r.made, iv r.size, iv r.pk])
        repeat' (first | refine spD (fun _ => ?_) (fun _ => ?_) | refine spF (fun _ => ?_) (fun _ => ?_) | (apply gT; (exact rfl)) | (apply off; (exact rfl); (exact rfl)) | (apply condT; (exact rfl)) | (apply condF; (exact rfl)) | ((first | (apply stp0; (exact rfl); (exact rfl)) | (apply stpN0; (exact rfl)) | apply gT | apply condT); (first | (focus (simp only [go_sem, ↓reduceIte, simprocAttr, t0, t3, t8, hKm, he, hlen, hge, hup] <;> rfl)) | exact rfl); (first | (fail_if_success (show okD _ _ _ _ _ _ _ _ _)) | (first | exact okT | exact okN | exact okE rfl))) | refine thenQ_n ?_ | refine thenQ_r ?_ | refine thenQ_e ?_ | refine blockQ_n ?_ | refine blockQ_r ?_ | refine blockQ_e ?_ | (apply blockQ_o; (exact rfl)) | refine Awp.seq ?_ | refine Awp.skip ?_ | refine Awp.block ?_ | refine reg (fun s => s == 7) ?_ | (apply drwL mixed (fun s => s == 7) (.of fun _ => false); (exact rfl); (kernel_rfl); (kernel_rfl); simp only [List.pop_toArray, List.dropLast_cons_cons, List.dropLast_singleton, List.map_cons, List.map_nil]) | refine fin ?_ | refine Awp.ret ?_ | refine Awp.exit ?_ | ((first | (apply off; (exact rfl)) | apply condF); (first | (focus (simp only [go_sem, ↓reduceIte, simprocAttr, t0, t3, t8, hKm, he, hlen, hge, hup] <;> rfl)) | exact rfl)))
        all_goals first | contradiction | (exfalso; omega) | skip
        refine bodyQ_mk (vs := [bv true, iv 0]) (.inr rfl) (by rw [Try.results40]; simp only [go_sem, ↓reduceIte, simprocAttr]) (Vs.refl _ _ _) ⟨by rw [c1, c2]; rfl, ⟨tkR_srt hX.srt, fun y hy => ?_, _, (heldS hKm).1 _, ?_⟩, ?_⟩
        · rcases tkR_mem hy with h | ⟨rfl, h⟩
          · exact hX.ok y h
          · exact h
        · exact hk.set r.id _ fun y => by
            unfold itF
            rw [tkR_find hX.srt c2]
            split <;> rfl
        · exact ⟨by rw [List.length_set]; exact hG.len, fun j hj e => by rw [List.getElem?_set_ne (Ne.symm e)]; exact hG.old j hj⟩

end Go.Proofs.Ytlhchnnfgppneaa.Ab
namespace Go.Proofs.Ytlhchnnfgppneaa.Ab
open Go Go.RowKit Go.Proofs Go.Maps Go.Sort Go.Shelf

def keys_ren : Go.Shelf.Ren := ⟨fun | 10 => 105 | n => n, fun | 33 => 129 | 23 => 40 | 0 => 0 | 4 => 4 | 26 => 2 | 3 => 23 | n => n, fun n => n⟩
theorem keys_lay : SlLaysZI.n10 Try.prog keys_ren where
  mixed := by kernel_rfl
  f10 := ⟨"maps.Keys[map[int64]isobath/api.Record,int64,isobath/api.Record]$1", by decide, Try.func105.trans (congrArg some (by kernel_rfl))⟩
  t0 := Try.underlying0
  a0 := Try.isAgg0
  z0 := Try.sizeOf0
  v0 := Try.zeroValue0
  t4 := Try.underlying4
  a4 := Try.isAgg4
  z4 := Try.sizeOf4
  v4 := Try.zeroValue4
  t23 := Try.underlying40
  a23 := Try.isAgg40
  z23 := Try.sizeOf40
  v23 := Try.zeroValue40
  t26 := Try.underlying2
  a26 := Try.isAgg2
  z26 := Try.sizeOf2
  v26 := Try.zeroValue2
  t33 := Try.underlying129
  a33 := Try.isAgg129
  z33 := Try.sizeOf129
  v33 := Try.zeroValue129

def sorted_ren : Go.Shelf.Ren := ⟨fun | 6 => 76 | 8 => 103 | 9 => 104 | 11 => 116 | 13 => 109 | 12 => 117 | 23 => 126 | 24 => 127 | 14 => 130 | 15 => 131 | 16 => 132 | 17 => 133 | 18 => 134 | 19 => 135 | 20 => 136 | 21 => 137 | 22 => 138 | 25 => 144 | 26 => 140 | 27 => 141 | 28 => 145 | 29 => 146 | 30 => 110 | 31 => 148 | n => n, fun | 26 => 2 | 28 => 124 | 24 => 46 | 0 => 0 | 3 => 3 | 37 => 174 | 48 => 91 | 50 => 191 | 4 => 4 | 40 => 183 | 39 => 182 | 45 => 187 | 5 => 5 | 9 => 9 | 51 => 199 | 55 => 203 | 57 => 207 | 58 => 208 | 33 => 129 | n => n, fun n => n⟩
theorem sorted_lay : SlLaysZI.n6 Try.prog sorted_ren where
  mixed := by kernel_rfl
  f6 := ⟨"slices.Sorted[int64]", by decide, Try.func76.trans (congrArg some (by kernel_rfl))⟩
  f8 := ⟨"slices.Collect[int64]", by decide, Try.func103.trans (congrArg some (by kernel_rfl))⟩
  f11 := ⟨"slices.AppendSeq[[]int64,int64]", by decide, Try.func116.trans (congrArg some (by kernel_rfl))⟩
  t0 := Try.underlying0
  a0 := Try.isAgg0
  z0 := Try.sizeOf0
  v0 := Try.zeroValue0
  t24 := Try.underlying46
  a24 := Try.isAgg46
  z24 := Try.sizeOf46
  v24 := Try.zeroValue46
  t26 := Try.underlying2
  a26 := Try.isAgg2
  z26 := Try.sizeOf2
  v26 := Try.zeroValue2
  t28 := Try.underlying124
  a28 := Try.isAgg124
  z28 := Try.sizeOf124
  v28 := Try.zeroValue124
  i26 := by kernel_rfl

def sort_ren : Go.Shelf.Ren := ⟨fun | 5 => 104 | 8 => 109 | 7 => 117 | 19 => 126 | 20 => 127 | 10 => 130 | 11 => 131 | 12 => 132 | 13 => 133 | 14 => 134 | 15 => 135 | 16 => 136 | 17 => 137 | 18 => 138 | 30 => 144 | 31 => 140 | 32 => 141 | 33 => 145 | 34 => 146 | 35 => 110 | 40 => 148 | n => n, fun | 23 => 46 | 25 => 2 | 3 => 3 | 32 => 174 | 22 => 46 | 0 => 0 | 44 => 91 | 46 => 191 | 4 => 4 | 36 => 183 | 35 => 182 | 41 => 187 | 5 => 5 | 9 => 9 | 53 => 199 | 57 => 203 | 63 => 207 | 64 => 208 | n => n, fun n => n⟩
theorem sort_lay : SlLaysM.n5 Try.prog sort_ren where
  mixed := by kernel_rfl
  f5 := ⟨"slices.Sort[[]int64,int64]", by decide, Try.func104.trans (congrArg some (by kernel_rfl))⟩
  f7 := ⟨"slices.pdqsortOrdered[int64]", by decide, Try.func117.trans (congrArg some (by kernel_rfl))⟩
  f8 := Try.func109.trans (congrArg some (by kernel_rfl))
  f10 := ⟨"slices.insertionSortOrdered[int64]", by decide, Try.func130.trans (congrArg some (by kernel_rfl))⟩
  f11 := ⟨"slices.heapSortOrdered[int64]", by decide, Try.func131.trans (congrArg some (by kernel_rfl))⟩
  f12 := ⟨"slices.breakPatternsOrdered[int64]", by decide, Try.func132.trans (congrArg some (by kernel_rfl))⟩
  f13 := ⟨"slices.choosePivotOrdered[int64]", by decide, Try.func133.trans (congrArg some (by kernel_rfl))⟩
  f14 := ⟨"slices.reverseRangeOrdered[int64]", by decide, Try.func134.trans (congrArg some (by kernel_rfl))⟩
  f15 := ⟨"slices.partialInsertionSortOrdered[int64]", by decide, Try.func135.trans (congrArg some (by kernel_rfl))⟩
  f16 := ⟨"cmp.Less[int64]", by decide, Try.func136.trans (congrArg some (by kernel_rfl))⟩
  f17 := ⟨"slices.partitionEqualOrdered[int64]", by decide, Try.func137.trans (congrArg some (by kernel_rfl))⟩
  f18 := ⟨"slices.partitionOrdered[int64]", by decide, Try.func138.trans (congrArg some (by kernel_rfl))⟩
  f19 := Try.func126.trans (congrArg some (by kernel_rfl))
  f20 := Try.func127.trans (congrArg some (by kernel_rfl))
  f30 := ⟨"slices.siftDownOrdered[int64]", by decide, Try.func144.trans (congrArg some (by kernel_rfl))⟩
  f31 := Try.func140.trans (congrArg some (by kernel_rfl))
  f32 := Try.func141.trans (congrArg some (by kernel_rfl))
  f33 := ⟨"slices.medianAdjacentOrdered[int64]", by decide, Try.func145.trans (congrArg some (by kernel_rfl))⟩
  f34 := ⟨"slices.medianOrdered[int64]", by decide, Try.func146.trans (congrArg some (by kernel_rfl))⟩
  f35 := ⟨"cmp.isNaN[int64]", by decide, Try.func110.trans (congrArg some (by kernel_rfl))⟩
  f40 := ⟨"slices.order2Ordered[int64]", by decide, Try.func148.trans (congrArg some (by kernel_rfl))⟩
  t0 := Try.underlying0
  a0 := Try.isAgg0
  z0 := Try.sizeOf0
  v0 := Try.zeroValue0
  t3 := Try.underlying3
  a3 := Try.isAgg3
  z3 := Try.sizeOf3
  v3 := Try.zeroValue3
  t4 := Try.underlying4
  a4 := Try.isAgg4
  z4 := Try.sizeOf4
  v4 := Try.zeroValue4
  t5 := Try.underlying5
  a5 := Try.isAgg5
  z5 := Try.sizeOf5
  v5 := Try.zeroValue5
  t9 := Try.underlying9
  a9 := Try.isAgg9
  z9 := Try.sizeOf9
  v9 := Try.zeroValue9
  t22 := Try.underlying46
  a22 := Try.isAgg46
  z22 := Try.sizeOf46
  v22 := Try.zeroValue46
  t23 := Try.underlying46
  a23 := Try.isAgg46
  z23 := Try.sizeOf46
  v23 := Try.zeroValue46
  t25 := Try.underlying2
  a25 := Try.isAgg2
  z25 := Try.sizeOf2
  v25 := Try.zeroValue2
  t32 := Try.underlying174
  a32 := Try.isAgg174
  z32 := Try.sizeOf174
  v32 := Try.zeroValue174
  t35 := Try.underlying182
  a35 := Try.isAgg182
  z35 := Try.sizeOf182
  v35 := Try.zeroValue182
  t36 := Try.underlying183
  a36 := Try.isAgg183
  z36 := Try.sizeOf183
  v36 := Try.zeroValue183
  t41 := Try.underlying187
  a41 := Try.isAgg187
  z41 := Try.sizeOf187
  v41 := Try.zeroValue187
  t44 := Try.underlying91
  a44 := Try.isAgg91
  z44 := Try.sizeOf91
  v44 := Try.zeroValue91
  t46 := Try.underlying191
  a46 := Try.isAgg191
  z46 := Try.sizeOf191
  v46 := Try.zeroValue191
  t53 := Try.underlying199
  a53 := Try.isAgg199
  z53 := Try.sizeOf199
  v53 := Try.zeroValue199
  t57 := Try.underlying203
  a57 := Try.isAgg203
  z57 := Try.sizeOf203
  v57 := Try.zeroValue203
  t63 := Try.underlying207
  a63 := Try.isAgg207
  z63 := Try.sizeOf207
  v63 := Try.zeroValue207
  t64 := Try.underlying208
  a64 := Try.isAgg208
  z64 := Try.sizeOf208
  v64 := Try.zeroValue208

abbrev kS : FuncId := 76
abbrev kK : FuncId := 105
abbrev kT : TypeId := 2

end Go.Proofs.Ytlhchnnfgppneaa.Ab
namespace Go.Proofs.Ytlhchnnfgppneaa.Ab
open Go Go.RowKit Go.Proofs Go.Maps Go.Sort Go.Shelf
open Go.MapKept (Stamped)
set_option linter.unusedSimpArgs false
set_option linter.unusedVariables false

variable {base : Nat} {w0 w w' : World} {g : Gh} {H : Hp}

def insS (x : Int) : List Int → List Int
  | [] => [x]
  | y :: l => if x ≤ y then x :: y :: l else y :: insS x l
/-- sorted, by what the kernel computes with -/
def sortS : List Int → List Int
  | [] => []
  | x :: l => insS x (sortS l)

theorem insS_perm (x : Int) : ∀ l, (insS x l).Perm (x :: l)
  | [] => List.Perm.refl _
  | y :: l => by
    unfold insS
    split
    · exact List.Perm.refl _
    · exact ((insS_perm x l).cons y).trans (List.Perm.swap x y l)
theorem sortS_perm : ∀ l, (sortS l).Perm l
  | [] => List.Perm.refl _
  | x :: l => (insS_perm x (sortS l)).trans ((sortS_perm l).cons x)
theorem insS_pair (x : Int) : ∀ l, l.Pairwise (· ≤ ·) → (insS x l).Pairwise (· ≤ ·)
  | [], _ => by simp [insS]
  | y :: l, h => by
    obtain ⟨h1, h2⟩ := List.pairwise_cons.1 h
    unfold insS
    split
    · rename_i hxy
      refine List.pairwise_cons.2 ⟨fun z hz => ?_, h⟩
      rcases List.mem_cons.1 hz with rfl | hz
      · exact hxy
      · have := h1 z hz; omega
    · rename_i hxy
      refine List.pairwise_cons.2 ⟨fun z hz => ?_, insS_pair x l h2⟩
      rcases List.mem_cons.1 ((insS_perm x l).mem_iff.1 hz) with rfl | hz
      · omega
      · exact h1 z hz
theorem sortS_pair : ∀ l, (sortS l).Pairwise (· ≤ ·)
  | [] => by simp [sortS]
  | x :: l => insS_pair x _ (sortS_pair l)
theorem sortS_length (l : List Int) : (sortS l).length = l.length := (sortS_perm l).length_eq
theorem sortS_eq (l : List Int) : l.mergeSort (fun x y => decide (x ≤ y)) = sortS l := by
  refine List.Perm.eq_of_pairwise (le := fun a b => a ≤ b) (fun a b _ _ h1 h2 => Int.le_antisymm h1 h2) ?_ (sortS_pair l) ((List.mergeSort_perm l _).trans (sortS_perm l).symm)
  have := List.pairwise_mergeSort (le := fun x y : Int => decide (x ≤ y)) (fun a b c h1 h2 => by simp only [decide_eq_true_eq] at *; omega) (fun a b => by simp only [Bool.or_eq_true, decide_eq_true_eq]; omega) l
  exact this.imp (by intro a b h; simpa using h)

theorem sorts_in (m : Nat) : AnyZI.SortsIn Try.prog sorted_ren Fence.wide m :=
  ⟨fun blk off cap ss W hH hblk hsz => callsIn_wide.2 (AnyM.slices_Sort_int sort_lay blk off cap ss W hH hblk hsz),
   fun p cap W => callsIn_wide.2 (AnyM.slices_Sort_int_none sort_lay p cap W)⟩

abbrev noVal : Value → Option (DataW Unit × List MemPlace) := fun _ => some (.nil, [])

theorem sortedW (w : World) (Bm b : Nat) (es : Array MapEntry) (clock : Nat) (hBm : w.cell? ⟨Bm, 0, none⟩ = some (.map (some b))) (hb : w.heap[b]? = some (.map es clock)) (hst : Stamped es clock) (ks : List Int)
    (hks : es.toList.map (·.key) = ks.map (Value.int .i64)) (hwf : ∀ k ∈ ks, -9223372036854775808 ≤ k ∧ k ≤ 9223372036854775807) (hsz : ks.length * 8 ≤ 140737488355328) :
    CallsIn Fence.wide 0 Try.prog kS #[.func (.func kK) #[] #[.pointer (some ⟨Bm, 0, none⟩)]] w fun e w' => ∃ v, e = .returned v ∧ w'.ownsRow w.heap.size kT 1 v ks.length ((sortS ks).map (Value.int .i64)) ∧ (v = .slice none 0 0 ↔ ks = []) ∧ Below w.heap.size w w' := by
  have hlen : es.size = ks.length := by
    have := congrArg List.length hks
    simpa using this
  have hBl : Bm < w.heap.size := by
    rcases Nat.lt_or_ge Bm w.heap.size with h | h
    · exact h
    · simp [World.cell?, Array.getElem?_eq_none h] at hBm
  have hkey : ∀ x ∈ es.toList, ∃ k, k ∈ ks ∧ x.key = .int .i64 k := fun x hx => by
    have : x.key ∈ es.toList.map (·.key) := List.mem_map_of_mem hx
    rw [hks] at this
    obtain ⟨k, hk, e⟩ := List.mem_map.1 this
    exact ⟨k, hk, e.symm⟩
  have hrd : ∀ x ∈ es.toList, ∀ k, x.key = .int .i64 k → k ∈ ks → Go.WideElems.rd Try.prog kT noVal x = some (.int .i64 k, .nil) := fun x hx k e hk => by
    have hw := hwf k hk
    have hwf' : (Lit.int .i64 k).wf = true := by
      simp only [Lit.wf, Bool.and_eq_true, decide_eq_true_eq]
      rw [show IntKind.i64.min = -9223372036854775808 by decide, show IntKind.i64.max = 9223372036854775807 by decide]
      exact hw
    simp [Go.WideElems.rd, e, keyOf, mapKey, keys_lay.t26, hwf']
    first | done | (rw [show Try.prog.underlying kT = some (.int .i64) from keys_lay.t26]; simp [hwf'])
  have hown : w.ownsMap Try.prog kT noVal b es.size (.map ((es.toList.map (Go.WideElems.rg Try.prog kT noVal)).foldr DataW.insert [])) :=
    ⟨es, clock, hb, ⟨by rw [hlen]; simp only [maxLen]; omega, hst, fun x hx => by
      obtain ⟨k, hk, e⟩ := hkey x hx
      exact ⟨_, hrd x hx k e hk⟩⟩, Nat.le_refl _, rfl⟩
  have hperm : (intKeys (.map ((es.toList.map (Go.WideElems.rg Try.prog kT noVal)).foldr DataW.insert []))).Perm ks := by
    have h1 := (Go.WideShapes.sorted_perm (es.toList.map (Go.WideElems.rg Try.prog kT noVal))).map fun p => Go.intOf p.1
    refine h1.trans ?_
    rw [List.map_map]
    have : es.toList.map ((fun p : Lit × DataW Unit => Go.intOf p.1) ∘ Go.WideElems.rg Try.prog kT noVal) = es.toList.map fun x => (match x.key with | .int _ a => a | _ => 0) := by
      refine List.map_congr_left fun x hx => ?_
      obtain ⟨k, hk, e⟩ := hkey x hx
      simp only [Function.comp, Go.WideElems.rg, hrd x hx k e hk, Option.getD_some, Go.intOf, e]
    rw [this]
    have h2 : es.toList.map (fun x => (match x.key with | .int _ a => a | _ => 0)) = (es.toList.map (·.key)).map fun v => (match v with | .int _ a => a | _ => 0) := by rw [List.map_map]; rfl
    rw [h2, hks, List.map_map]
    have h3 : ks.map ((fun v : Value => (match v with | .int _ a => a | _ => 0)) ∘ Value.int .i64) = ks := by
      conv => rhs; rw [← List.map_id ks]
      rfl
    rw [h3]
  have hsize : Maps.size (.map ((es.toList.map (Go.WideElems.rg Try.prog kT noVal)).foldr DataW.insert [])) = ks.length := by
    rw [Maps.size_eq, (Go.WideShapes.sorted_perm _).length_eq, List.length_map, ← hlen]; simp
  have hseq := AnyZI.keys_gives keys_lay Fence.wide 2 trivial rfl (by omega) Bm b es.size _ w hBl hBm hown
  have cS := AnyZI.sorted_in sorted_lay Fence.wide 5 trivial trivial trivial trivial rfl (by omega) (sorts_in _) (sort_lay.f5.enters rfl) kK #[.pointer (some ⟨Bm, 0, none⟩)] trivial (keys_lay.f10.enters rfl) _ _
    (by rw [hsize]; simp only [maxLen]; omega) (by rw [hsize]; exact hsz) w hseq
  refine callsIn_wide.2 ((callsIn_wide.1 cS).mono fun e w' ⟨v, ss, he, hS, hrow, hnil, hbel⟩ => ?_)
  have hp : ss.Perm ks := hS.trans hperm
  rw [mergeSort_of_perm_i hp, hp.length_eq] at hrow
  refine ⟨v, he, ?_, ?_, hbel⟩
  · rw [← sortS_eq]; exact hrow
  · rw [hnil]
    constructor
    · rintro rfl; exact List.eq_nil_of_length_eq_zero (by rw [← hp.length_eq]; rfl)
    · rintro rfl; exact List.eq_nil_of_length_eq_zero (by rw [hp.length_eq]; rfl)

theorem one_arg {a : AV} {vs : Array Value} (hr : RCells g [a] vs) : ∃ v0, vs = #[v0] ∧ R g a v0 := by
  have hs := hr.size
  match vs, hs, hr with
  | ⟨[v0]⟩, _, hr => exact ⟨v0, rfl, hr.cell 0 _ _ rfl rfl⟩

/-- what is handed back, and the heap behind it -/
def srtV (H : Hp) (ks : List Int) : AV := if ks = [] then .val (.slice none 0 0) else .msl H.length 0 ks.length
def srtH (H : Hp) (ks : List Int) : Hp := if ks = [] then H else H ++ [.cells ((sortS ks).map fun x => [.val (.int .i64 x)]) kT]

theorem sortedA (H : Hp) (bx m : Nat) (t : TypeId) (es : List (AV × AV)) (ks : List Int) (hbx : H[bx]? = some (.cells [[.mp m]] t)) (hm : H[m]? = some (.amap es)) (hk : es.map (·.1) = ks.map fun k => .val (.int .i64 k))
    (hwf : ∀ k ∈ ks, -9223372036854775808 ≤ k ∧ k ≤ 9223372036854775807) (hsz : ks.length * 8 ≤ 140737488355328) : CallsTo Try.prog kS [.fn (.func kK) [.mptr bx 0 0]] H (srtV H ks) (srtH H ks) := by
  refine ⟨by kernel_rfl, fun base w0 g w vs S hr => ?_⟩
  obtain ⟨v0, rfl, h0⟩ := one_arg hr
  cases h0 with
  | fn hy hl hc =>
    rename_i us
    have hs : us.size = 1 := by simpa using hl.symm
    match us, hs, hc with
    | ⟨[p]⟩, hs1, hc =>
      have hp := hc 0 _ _ rfl rfl
      cases hp with
      | mptr hx =>
        rename_i x
        obtain ⟨y, o, q1, q2, q3⟩ := S.obj bx _ hbx (by simp)
        rw [hx] at q1; cases q1
        cases q3 with
        | cells hs1 hl1 hk1 hr1 =>
          rename_i cur
          obtain ⟨u, hu, hR⟩ := hr1 0 _ 0 _ rfl rfl
          cases hR with
          | mp hz =>
            rename_i z
            obtain ⟨z', o2, r1, r2, r3⟩ := S.obj m _ hm (by simp)
            rw [hz] at r1; cases r1
            cases r3 with
            | amap hlm hrm hst =>
              rename_i ms clock
              have hBm : w.cell? ⟨x, 0 * g.ks bx + 0, none⟩ = some (.map (some z)) := by
                rw [cell_of_cells q2]
                simpa using hu
              simp only [Nat.zero_mul, Nat.add_zero] at hBm ⊢
              have hks : ms.toList.map (·.key) = ks.map (Value.int .i64) := by
                refine List.ext_getElem? fun i => ?_
                have hi := congrArg (fun l => l[i]?) hk
                simp only [List.getElem?_map] at hi ⊢
                by_cases hlt : i < es.length
                · obtain ⟨e, he⟩ : ∃ e, es[i]? = some e := ⟨_, List.getElem?_eq_getElem hlt⟩
                  obtain ⟨mm, hmm⟩ : ∃ mm, ms.toList[i]? = some mm := ⟨_, List.getElem?_eq_getElem (by simpa [← hlm] using hlt)⟩
                  have hR := (hrm i e mm he (by simpa using hmm)).1
                  rw [he] at hi
                  rw [hmm]
                  cases hk2 : ks[i]? with
                  | none => rw [hk2] at hi; cases hi
                  | some k =>
                    rw [hk2] at hi
                    simp only [Option.map_some, Option.some.injEq] at hi ⊢
                    rw [hi] at hR
                    generalize hmk : mm.key = mk at hR
                    cases hR
                    rfl
                · rw [List.getElem?_eq_none (show es.length ≤ i by omega)] at hi
                  have h2 : ms.toList.length ≤ i := by simp [← hlm]; omega
                  rw [List.getElem?_eq_none h2]
                  cases hk2 : ks[i]? with
                  | none => rfl
                  | some k => rw [hk2] at hi; cases hi
              have hC := sortedW w x z ms clock hBm r2 hst ks hks hwf hsz
              refine hC.mono fun e w' ⟨v, he, hrow, hnil, hbel⟩ => ?_
              have S' := S.beyond hbel
              unfold srtV srtH
              by_cases hz0 : ks = []
              · rw [if_pos hz0, if_pos hz0]
                rw [hnil.2 hz0] at he
                exact ⟨_, _, _, g, he, ⟨rfl, rfl⟩, Gh.le.refl g, S', .val _⟩
              · rw [if_neg hz0, if_neg hz0]
                rcases hrow.2 with ⟨rfl, _⟩ | ⟨gb, cap, cur2, rfl, hge, hgb, hn, hcm, hcs, htk⟩
                · exact absurd (hnil.1 rfl) hz0
                have hglt : gb < w'.heap.size := (Array.getElem?_eq_some_iff.1 hgb).1
                have hS := S'.push (x := gb) (k := 1) (c := cap) (ob := .cells ((sortS ks).map fun x => [.val (.int .i64 x)]) kT) (Nat.le_trans S.low hge) hglt hgb
                  (fun o => by
                    cases h : g.fz gb o with
                    | none => rfl
                    | some v => exact absurd (S.fzlt h) (by omega))
                  (fun h => absurd (S.marks _ h).2.1 (by omega)) (fun b ob _ _ h => absurd (S.pos b _ h).2 (by omega))
                  (.cells (by simpa using hcs) (by rw [List.length_map, sortS_length]; exact hn)
                    (fun i e he => by
                      rw [List.getElem?_map] at he
                      cases h : (sortS ks)[i]? with
                      | none => rw [h] at he; cases he
                      | some a => rw [h] at he; cases he; rfl)
                    (fun i e j c he hc => by
                      rw [List.getElem?_map] at he
                      cases h : (sortS ks)[i]? with
                      | none => rw [h] at he; cases he
                      | some a =>
                        rw [h] at he; cases he
                        have hj : j = 0 := by have := (List.getElem?_eq_some_iff.1 hc).1; simp at this; omega
                        subst hj
                        cases hc
                        refine ⟨.int .i64 a, ?_, .val _⟩
                        have hi : i < ks.length := by rw [← sortS_length]; exact (List.getElem?_eq_some_iff.1 h).1
                        have h3 := congrArg (fun l => l[i]?) htk
                        simp only [Nat.mul_one, List.getElem?_take, if_pos hi, List.getElem?_map, h, Option.map_some] at h3
                        simpa using h3))
                refine ⟨_, _, _, _, he, ⟨rfl, rfl⟩, Gh.phAdd_le S'.fresh, hS, ?_⟩
                have hRv := R.msl (g := g.phAdd H.length gb 1 cap) (b := H.length) (off := 0) (len := ks.length) (x := gb) (cap := cap) (by simp [Gh.phAdd]) hn (by simp [Gh.phAdd]) hcm
                simpa using hRv

/-- the keys of a map, if all are integers -/
def keysA : List (AV × AV) → Option (List Int)
  | [] => some []
  | (.val (.int .i64 k), _) :: es => (keysA es).map (k :: ·)
  | _ => none

theorem keysA_map : ∀ {es : List (AV × AV)} {ks : List Int}, keysA es = some ks → es.map (·.1) = ks.map fun k => .val (.int .i64 k)
  | [], ks, h => by unfold keysA at h; cases h; rfl
  | e :: es, ks, h => by
    unfold keysA at h
    split at h
    · rename_i h0; cases h0
    · rename_i k v es' he
      cases he
      cases h2 : keysA es with
      | none => rw [h2] at h; cases h
      | some l => rw [h2] at h; cases h; simp [keysA_map h2]
    · cases h

/-- what is known of slices.Sorted(maps.Keys(m)) -/
def srtX : Ora := fun k args H =>
  if k = kS then
    match args with
    | [.fn (.func c) [.mptr bx 0 0]] => if c = kK then
        match H[bx]? with
        | some (.cells [[.mp m]] _) => match H[m]? with
          | some (.amap es) => match keysA es with
            | some ks => if (∀ k ∈ ks, -9223372036854775808 ≤ k ∧ k ≤ 9223372036854775807) ∧ ks.length * 8 ≤ 140737488355328 then some (srtV H ks, srtH H ks, []) else none
            | none => none
          | _ => none
        | _ => none
      else none
    | _ => none
  else none

theorem srtX_ok : OraOk Try.prog srtX := by
  intro k args H v H' t h
  unfold srtX at h
  split at h
  · rename_i hk
    subst hk
    split at h
    · rename_i c bx
      split at h
      · rename_i hc
        subst hc
        split at h
        · rename_i m tt hbx
          split at h
          · rename_i es hm
            split at h
            · rename_i ks hks
              split at h
              · rename_i hif
                cases h
                refine ⟨sortedA H bx m tt es ks hbx hm (keysA_map hks) hif.1 hif.2, ?_⟩
                unfold srtH
                split
                · exact Keeps.refl _ _
                · exact Keeps.app _ _ _
              · cases h
            · cases h
          · cases h
        · cases h
      · cases h
    · cases h
  · cases h

end Go.Proofs.Ytlhchnnfgppneaa.Ab
namespace Go.Proofs.Ytlhchnnfgppneaa.Ab
open Go Go.RowKit Go.Proofs
set_option linter.unusedSimpArgs false
set_option linter.unusedVariables false
attribute [local irreducible] Awp wpO thenQ blockQ bodyQ ACalls stepA

def its (R : List Item) : List (List AV) := R.map Item.cs
theorem its_len (R : List Item) : (its R).length = R.length := by simp [its]
theorem its_at {R : List Item} {i : Nat} {r : Item} (h : R[i]? = some r) : (its R)[i]? = some [iv r.id, iv r.cls, iv r.made, iv r.size, iv r.pk] := nthMap Item.cs h
theorem its_five (R : List Item) : ∀ e ∈ its R, e.length = 5 := by intro e he; obtain ⟨r, _, rfl⟩ := List.mem_map.1 he; rfl
theorem its_plain (R : List Item) : Plain (its R) := by
  intro e he a ha
  obtain ⟨r, _, rfl⟩ := List.mem_map.1 he
  simp only [Item.cs, List.mem_cons, List.not_mem_nil, or_false] at ha
  rcases ha with rfl | rfl | rfl | rfl | rfl <;> exact ⟨_, rfl⟩
theorem its_succ {R : List Item} {i : Nat} {r : Item} (h : R[i]? = some r) : its (R.take (i + 1)) = its (R.take i) ++ [[iv r.id, iv r.cls, iv r.made, iv r.size, iv r.pk]] := by
  rw [List.take_add_one, h]; simp [its, Item.cs]

theorem sortS_ids {ks : List Int} {R : List Item} (hp : ks.Perm (idsR R)) (hs : srtR R) : sortS ks = idsR R := by
  refine List.Perm.eq_of_pairwise (le := fun a b => a ≤ b) (fun a b _ _ h1 h2 => Int.le_antisymm h1 h2) (sortS_pair ks) (hs.ids.imp fun h => by omega) ((sortS_perm ks).trans hp)

set_option maxRecDepth 8000 in
theorem keysX (H : Hp) (m : Nat) : CallsTo Try.prog 77 [.mp m] H (.fn (.func 105) [.mptr H.length 0 0]) (H ++ [.cells [[.mp m]] 40]) := by
  refine ACalls.of_body Try.func77 rfl (by kernel_rfl) (by rw [Try.ntmps77]; simp) ?_; rw [Try.ntmps77]
  repeat' (first | refine spD (fun _ => ?_) (fun _ => ?_) | refine spF (fun _ => ?_) (fun _ => ?_) | (apply gT; (exact rfl)) | (apply off; (exact rfl); (exact rfl)) | (apply condT; (exact rfl)) | (apply condF; (exact rfl)) | ((first | (apply stp0; (exact rfl); (exact rfl)) | (apply stpN0; (exact rfl)) | apply gT | apply condT); (first | (focus (simp only [go_sem, ↓reduceIte, simprocAttr] <;> rfl)) | exact rfl); (first | (fail_if_success (show okD _ _ _ _ _ _ _ _ _)) | (first | exact okT | exact okN | exact okE rfl))) | refine thenQ_n ?_ | refine thenQ_r ?_ | refine thenQ_e ?_ | refine blockQ_n ?_ | refine blockQ_r ?_ | refine blockQ_e ?_ | (apply blockQ_o; (exact rfl)) | refine Awp.seq ?_ | refine Awp.skip ?_ | refine Awp.block ?_ | refine reg (fun s => s == 1) ?_ | (apply drwE mixed (fun s => s == 1); (kernel_rfl)) | refine fin ?_ | refine Awp.ret ?_ | refine Awp.exit ?_ | ((first | (apply off; (exact rfl)) | apply condF); (first | (focus (simp only [go_sem, ↓reduceIte, simprocAttr] <;> rfl)) | exact rfl)))
  all_goals first | contradiction | (exfalso; omega) | skip
  exact bodyQ_mk (vs := [.fn (.func 105) [.mptr H.length 0 0]]) (.inr rfl) (by rw [Try.results77]; simp only [go_sem, ↓reduceIte, simprocAttr]) (Vs.refl _ _ _) ⟨rfl, rfl⟩

set_option maxRecDepth 8000 in
set_option maxHeartbeats 4000000 in
theorem recordsX {H : Hp} {m : Nat} {R : List Item} (hX : Ibx H m R) (hl : R.length ≤ 300) : CallsTo Try.prog 44 [.rptr [.mp m] 0] H (.rsl (its R) false) H := by
  obtain ⟨kr, hm, hk⟩ := hX.at_
  have hv := fun H => validX H m
  have hky := keysX H m
  have hb1 := get_new H (.cells [[.mp m]] 40)
  have hm1 := (held hm).2.1 [.cells [[.mp m]] 40]
  have hpm := mapKeys hk hX.srt
  have hlen := mapLen hk hX.srt
  have hso := sortedA (H ++ [.cells [[.mp m]] 40]) H.length m 40 (ents kr) (kr.map (·.1)) hb1 hm1 (by simp [ents]) (fun k hk => by
    obtain ⟨r, hr, rfl⟩ := List.mem_map.1 (hpm.mem_iff.1 hk)
    have := hX.ok r hr
    simp only [Item.ok] at this
    omega) (by rw [List.length_map, hlen]; omega)
  have hse := sortS_ids hpm hX.srt
  have hG0 := (Grow.refl H).app [.cells [[.mp m]] 40]
  cases hR : R with
  | nil =>
    subst hR
    have hkn : kr = [] := List.eq_nil_of_length_eq_zero (by rw [hlen]; rfl)
    subst hkn
    simp only [List.map_nil, srtV, srtH, if_true] at hso
    refine ACalls.of_body Try.func44 rfl (by kernel_rfl) (by rw [Try.ntmps44]; simp) ?_; rw [Try.ntmps44]
    repeat' (first | refine spD (fun _ => ?_) (fun _ => ?_) | refine spF (fun _ => ?_) (fun _ => ?_) | (apply gT; (exact rfl)) | (apply off; (exact rfl); (exact rfl)) | (apply condT; (exact rfl)) | (apply condF; (exact rfl)) | ((first | (apply stp0; (exact rfl); (exact rfl)) | (apply stpN0; (exact rfl)) | apply gT | apply condT | ((first | apply bodyQ_d0 | apply bodyQ_d1 | apply bodyQ_d2 | apply bodyQ_d3 | apply bodyQ_d4); (exact .inr rfl); (rw [Try.results44]))); (first | (focus (simp only [go_sem, ↓reduceIte, simprocAttr] <;> rfl)) | exact rfl); (first | (fail_if_success (show okD _ _ _ _ _ _ _ _ _)) | (first | exact okT | exact okN | exact okE rfl)); (first | (fail_if_success (show Bel _ _)) | (focus first | exact .val _ | (simp [oneOf, Bel_iff_tup, Bel_iff_agg, Bel_iff_rsl, Bel_iff_fn, Bel_iff_rptr, Bel_val]; done)))) | (apply calTo0; (exact rfl); (iterate 2 (simp only [go_sem, ↓reduceIte, simprocAttr]; rfl)); (first | exact hv _ | exact hky | exact hso); (first | exact okT | exact okN | exact okE rfl)) | refine thenQ_n ?_ | refine thenQ_r ?_ | refine thenQ_e ?_ | refine blockQ_n ?_ | refine blockQ_r ?_ | refine blockQ_e ?_ | (apply blockQ_o; (exact rfl)) | refine Awp.seq ?_ | refine Awp.skip ?_ | refine Awp.block ?_ | refine reg (fun s => false) ?_ | (apply drwE mixed (fun s => false); (kernel_rfl)) | refine fin ?_ | refine Awp.ret ?_ | refine Awp.exit ?_ | ((first | (apply off; (exact rfl)) | apply condF); (first | (focus (simp only [go_sem, ↓reduceIte, simprocAttr] <;> rfl)) | exact rfl)))
    all_goals first | contradiction | (exfalso; omega) | skip
    refine Awp.loop (ι := Nat) (fun _ T' K => T' 16 = iv 0 ∧ T' 15 = iv 0 ∧ T' 3 = nilS ∧ Grow H K) (fun m => m) 0 ?_ ?_
    · exact ⟨by (first | (focus (simp only [go_sem, ↓reduceIte, simprocAttr]; first | done | rfl)) | rfl), by (first | (focus (simp only [go_sem, ↓reduceIte, simprocAttr]; first | done | rfl)) | rfl), by (first | (focus (simp only [go_sem, ↓reduceIte, simprocAttr]; first | done | rfl)) | rfl), hG0⟩
    rintro j T K ⟨t16, t15, t3, hG⟩
    repeat' (first | refine spD (fun _ => ?_) (fun _ => ?_) | refine spF (fun _ => ?_) (fun _ => ?_) | (apply gT; (exact rfl)) | (apply off; (exact rfl); (exact rfl)) | (apply condT; (exact rfl)) | (apply condF; (exact rfl)) | ((first | (apply stp0; (exact rfl); (exact rfl)) | (apply stpN0; (exact rfl)) | apply gT | apply condT); (first | (focus (simp only [go_sem, ↓reduceIte, simprocAttr, t16, t15, t3] <;> rfl)) | exact rfl); (first | (fail_if_success (show okD _ _ _ _ _ _ _ _ _)) | (first | exact okT | exact okN | exact okE rfl))) | refine thenQ_n ?_ | refine thenQ_r ?_ | refine thenQ_e ?_ | refine blockQ_n ?_ | refine blockQ_r ?_ | refine blockQ_e ?_ | (apply blockQ_o; (exact rfl)) | refine Awp.seq ?_ | refine Awp.skip ?_ | refine Awp.block ?_ | refine reg (fun s => false) ?_ | (apply drwE mixed (fun s => false); (kernel_rfl)) | refine fin ?_ | refine Awp.ret ?_ | refine Awp.exit ?_ | ((first | (apply off; (exact rfl)) | apply condF); (first | (focus (simp only [go_sem, ↓reduceIte, simprocAttr, t16, t15, t3] <;> rfl)) | exact rfl)))
    all_goals first | contradiction | (exfalso; omega) | skip
    exact bodyQ_own (a := nilS) (t := 23) (es := []) (.inr rfl) (by rw [Try.results44]; simp only [go_sem, ↓reduceIte, simprocAttr, t3]) hG .nil (by intro e he; simp at he)
  | cons r0 R0 =>
    have hne : ¬ kr.map (·.1) = [] := by
      intro e
      have := congrArg List.length e
      rw [List.length_map, hlen, hR] at this; simp at this
    rw [← hR]
    clear hR
    have hkl : (kr.map (·.1)).length = R.length := by rw [List.length_map]; exact hlen
    unfold srtV srtH at hso
    rw [if_neg hne, if_neg hne, hse, hkl] at hso
    have hrow := get_new (H ++ [AObj.cells [[.mp m]] 40]) (.cells ((idsR R).map fun x => [AV.val (Value.int .i64 x)]) kT)
    have hG1 := hG0.app [.cells ((idsR R).map fun x => [AV.val (Value.int .i64 x)]) kT]
    have hil : ((idsR R).map fun x => [AV.val (Value.int .i64 x)]).length = R.length := by simp [idsR]
    have hlm : R.length ≤ maxLen := by simp only [maxLen]; omega
    refine ACalls.of_body Try.func44 rfl (by kernel_rfl) (by rw [Try.ntmps44]; simp) ?_; rw [Try.ntmps44]
    repeat' (first | refine spD (fun _ => ?_) (fun _ => ?_) | refine spF (fun _ => ?_) (fun _ => ?_) | (apply gT; (exact rfl)) | (apply off; (exact rfl); (exact rfl)) | (apply condT; (exact rfl)) | (apply condF; (exact rfl)) | ((first | (apply stp0; (exact rfl); (exact rfl)) | (apply stpN0; (exact rfl)) | apply gT | apply condT | ((first | apply bodyQ_d0 | apply bodyQ_d1 | apply bodyQ_d2 | apply bodyQ_d3 | apply bodyQ_d4); (exact .inr rfl); (rw [Try.results44]))); (first | (focus (simp only [go_sem, ↓reduceIte, simprocAttr] <;> rfl)) | exact rfl); (first | (fail_if_success (show okD _ _ _ _ _ _ _ _ _)) | (first | exact okT | exact okN | exact okE rfl)); (first | (fail_if_success (show Bel _ _)) | (focus first | exact .val _ | (simp [oneOf, Bel_iff_tup, Bel_iff_agg, Bel_iff_rsl, Bel_iff_fn, Bel_iff_rptr, Bel_val]; done)))) | (apply calTo0; (exact rfl); (iterate 2 (simp only [go_sem, ↓reduceIte, simprocAttr]; rfl)); (first | exact hv _ | exact hky | exact hso); (first | exact okT | exact okN | exact okE rfl)) | refine thenQ_n ?_ | refine thenQ_r ?_ | refine thenQ_e ?_ | refine blockQ_n ?_ | refine blockQ_r ?_ | refine blockQ_e ?_ | (apply blockQ_o; (exact rfl)) | refine Awp.seq ?_ | refine Awp.skip ?_ | refine Awp.block ?_ | refine reg (fun s => false) ?_ | (apply drwE mixed (fun s => false); (kernel_rfl)) | refine fin ?_ | refine Awp.ret ?_ | refine Awp.exit ?_ | ((first | (apply off; (exact rfl)) | apply condF); (first | (focus (simp only [go_sem, ↓reduceIte, simprocAttr] <;> rfl)) | exact rfl)))
    all_goals first | contradiction | (exfalso; omega) | skip
    generalize (H ++ [AObj.cells [[.mp m]] 40] ++ [AObj.cells ((idsR R).map fun x => [AV.val (Value.int .i64 x)]) kT] : Hp) = K0 at *
    generalize (H ++ [AObj.cells [[.mp m]] 40] : Hp).length = o at *
    have hG00 := Grow.refl K0
    refine Awp.loop (ι := Nat) (fun i T' K => i ≤ R.length ∧ T' 16 = iv i ∧ T' 15 = iv R.length ∧ T' 14 = .msl o 0 R.length ∧ T' 0 = .rptr [.mp m] 0 ∧ Grow K0 K ∧ ∃ a, T' 3 = a ∧ Own K0.length 23 K a (its (R.take i))) (fun i => R.length - i) 0 ?_ ?_
    · refine ⟨Nat.zero_le _, ?_, ?_, ?_, ?_, hG00, nilS, ?_, .nil⟩
      · (first | (focus (simp only [go_sem, ↓reduceIte, simprocAttr]; first | done | rfl)) | rfl)
      · (first | (focus (simp only [go_sem, ↓reduceIte, simprocAttr]; first | done | rfl)) | rfl)
      · (first | (focus (simp only [go_sem, ↓reduceIte, simprocAttr]; first | done | rfl)) | rfl)
      · (first | (focus (simp only [go_sem, ↓reduceIte, simprocAttr]; first | done | rfl)) | rfl)
      · (first | (focus (simp only [go_sem, ↓reduceIte, simprocAttr]; first | done | rfl)) | rfl)
    rintro i T K ⟨hi, t16, t15, t14, t0, hG, a, t3, hO⟩
    by_cases hlt : i < R.length
    · obtain ⟨r, hr⟩ := nth hlt
      have hri : ((idsR R).map fun x => [AV.val (Value.int .i64 x)])[i]? = some [iv r.id] := by
        unfold idsR
        rw [List.getElem?_map, List.getElem?_map, hr]; rfl
      have hrK := hG.get hrow
      have hmK := hG.get (hG1.get hm)
      have lk : lookA Try.prog 40 (.mp m) (iv r.id) false K = some (.agg [iv r.id, iv r.cls, iv r.made, iv r.size, iv r.pk]) := by
        rw [(mT40.look0 hmK r.id).2, hk.get]
        unfold itF
        rw [findR_at hX.srt.nd hr]; rfl
      have hsu := wsucc hlt hlm
      have hOR : OwnR K0.length 23 5 40 K a (its (R.take i)) := ⟨hO, its_five _, by rw [its_len, List.length_take]; omega⟩
      have hKl : K0.length ≤ K.length := hG.len
      repeat' (first | refine spD (fun _ => ?_) (fun _ => ?_) | refine spF (fun _ => ?_) (fun _ => ?_) | (apply gT; (exact rfl)) | (apply off; (exact rfl); (exact rfl)) | (apply condT; (exact rfl)) | (apply condF; (exact rfl)) | ((first | (apply stp0; (exact rfl); (exact rfl)) | (apply stpN0; (exact rfl)) | apply gT | apply condT | ((first | apply bodyQ_d0 | apply bodyQ_d1 | apply bodyQ_d2 | apply bodyQ_d3 | apply bodyQ_d4); (exact .inr rfl); (rw [Try.results44]))); (first | (focus (simp only [go_sem, ↓reduceIte, simprocAttr, Int.ofNat_lt.2 hlt, t16, t15, t14, t0, t3, hrK, hil, hri, hlt, Nat.zero_add, lk, hsu] <;> rfl)) | exact rfl); (first | (fail_if_success (show okD _ _ _ _ _ _ _ _ _)) | (first | exact okT | exact okN | exact okE rfl)); (first | (fail_if_success (show Bel _ _)) | (focus first | exact .val _ | (simp [oneOf, Bel_iff_tup, Bel_iff_agg, Bel_iff_rsl, Bel_iff_fn, Bel_iff_rptr, Bel_val]; done)))) | (apply stpApp; (exact rfl); (first | exact hOR); (iterate 2 (first | (focus (simp only [go_sem, ↓reduceIte, simprocAttr, Int.ofNat_lt.2 hlt, t16, t15, t14, t0, t3, hrK, hil, hri, hlt, Nat.zero_add, lk, hsu] <;> rfl)) | rfl)); (first | rfl | (simp [AV.isCell]; done)); (first | rfl | (simp; done)); (first | exact ap39 | exact ap44 | exact ap46 | exact ap61 | exact ap63 | exact ap75 | exact ap86 | exact ap101 | exact ap102); (first | exact okT | exact okN | exact okE rfl)) | refine thenQ_n ?_ | refine thenQ_r ?_ | refine thenQ_e ?_ | refine blockQ_n ?_ | refine blockQ_r ?_ | refine blockQ_e ?_ | (apply blockQ_o; (exact rfl)) | refine Awp.seq ?_ | refine Awp.skip ?_ | refine Awp.block ?_ | refine reg (fun s => false) ?_ | (apply drwE mixed (fun s => false); (kernel_rfl)) | refine fin ?_ | refine Awp.ret ?_ | refine Awp.exit ?_ | ((first | (apply off; (exact rfl)) | apply condF); (first | (focus (simp only [go_sem, ↓reduceIte, simprocAttr, Int.ofNat_lt.2 hlt, t16, t15, t14, t0, t3, hrK, hil, hri, hlt, Nat.zero_add, lk, hsu] <;> rfl)) | exact rfl)))
      all_goals first | contradiction | (exfalso; omega) | skip
      refine ⟨i + 1, ⟨hlt, ?_, ?_, ?_, ?_, (hO.grow (Nat.le_refl _) hG).app _, .msl K.length 0 ((its (R.take i)).length + 1), ?_, ?_⟩, Nat.sub_lt_sub_left hlt (Nat.lt_succ_self i)⟩
      · (first | (focus (simp only [go_sem, ↓reduceIte, simprocAttr, hsu]; first | done | rfl)) | rfl)
      · (first | (focus (simp only [go_sem, ↓reduceIte, simprocAttr, t15]; first | done | rfl)) | rfl)
      · (first | (focus (simp only [go_sem, ↓reduceIte, simprocAttr, t14]; first | done | rfl)) | rfl)
      · (first | (focus (simp only [go_sem, ↓reduceIte, simprocAttr, t0]; first | done | rfl)) | rfl)
      · (first | (focus (simp only [go_sem, ↓reduceIte, simprocAttr]; first | done | rfl)) | rfl)
      · rw [its_succ hr]; exact hO.next hKl _ rfl rfl
    · have hie : i = R.length := Nat.le_antisymm hi (Nat.not_lt.1 hlt)
      subst hie
      rw [List.take_length] at hO
      repeat' (first | refine spD (fun _ => ?_) (fun _ => ?_) | refine spF (fun _ => ?_) (fun _ => ?_) | (apply gT; (exact rfl)) | (apply off; (exact rfl); (exact rfl)) | (apply condT; (exact rfl)) | (apply condF; (exact rfl)) | ((first | (apply stp0; (exact rfl); (exact rfl)) | (apply stpN0; (exact rfl)) | apply gT | apply condT); (first | (focus (simp only [go_sem, ↓reduceIte, simprocAttr, Int.lt_irrefl, t16, t15, t3] <;> rfl)) | exact rfl); (first | (fail_if_success (show okD _ _ _ _ _ _ _ _ _)) | (first | exact okT | exact okN | exact okE rfl))) | refine thenQ_n ?_ | refine thenQ_r ?_ | refine thenQ_e ?_ | refine blockQ_n ?_ | refine blockQ_r ?_ | refine blockQ_e ?_ | (apply blockQ_o; (exact rfl)) | refine Awp.seq ?_ | refine Awp.skip ?_ | refine Awp.block ?_ | refine reg (fun s => false) ?_ | (apply drwE mixed (fun s => false); (kernel_rfl)) | refine fin ?_ | refine Awp.ret ?_ | refine Awp.exit ?_ | ((first | (apply off; (exact rfl)) | apply condF); (first | (focus (simp only [go_sem, ↓reduceIte, simprocAttr, Int.lt_irrefl, t16, t15, t3] <;> rfl)) | exact rfl)))
      all_goals first | contradiction | (exfalso; omega) | skip
      exact bodyQ_own (a := a) (t := 23) (.inr rfl) (by rw [Try.results44]; simp only [go_sem, ↓reduceIte, simprocAttr, t3]) (hG1.trans hG) (hO.low hG1.len) (its_plain _)

end Go.Proofs.Ytlhchnnfgppneaa.Ab
namespace Go.Proofs.Ytlhchnnfgppneaa.Ab
open Go Go.RowKit Go.Proofs
set_option linter.unusedSimpArgs false
set_option linter.unusedVariables false
attribute [local irreducible] Awp wpO thenQ blockQ bodyQ ACalls stepA

theorem findH_ins {x : Hd} (y : Int) : ∀ (a : Nat) (L : List Hd), x.r.id ∉ idsL L → findH (insA a x L) y = if y = x.r.id then some x else findH L y := by
  intro a
  induction a with
  | zero => intro L _; rfl
  | succ a ih =>
    intro L hn
    cases L with
    | nil => rfl
    | cons h l =>
      have hn' : x.r.id ≠ h.r.id ∧ x.r.id ∉ idsL l := by simpa [idsL] using hn
      show (if y = h.r.id then some h else findH (insA a x l) y) = if y = x.r.id then some x else (if y = h.r.id then some h else findH l y)
      rw [ih l hn'.2]
      by_cases k : y = h.r.id
      · rw [if_pos k, if_pos k, if_neg (by rw [k]; exact Ne.symm hn'.1)]
      · rw [if_neg k, if_neg k]
theorem findH_last {x : Hd} (y : Int) : ∀ (L : List Hd), (idsL (L ++ [x])).Nodup → findH L y = if y = x.r.id then none else findH (L ++ [x]) y := by
  intro L
  induction L with
  | nil =>
    intro _
    show none = if y = x.r.id then none else (if y = x.r.id then some x else none)
    split <;> rfl
  | cons h l ih =>
    intro hn
    have hn' := List.nodup_cons.1 hn
    have hne : x.r.id ≠ h.r.id := fun e => hn'.1 (by show h.r.id ∈ idsL (l ++ [x]); rw [← e]; simp [idsL])
    show (if y = h.r.id then some h else findH l y) = if y = x.r.id then none else (if y = h.r.id then some h else findH (l ++ [x]) y)
    rw [ih hn'.2]
    by_cases k : y = h.r.id
    · rw [if_pos k, if_pos k, if_neg (by rw [k]; exact Ne.symm hne)]
    · rw [if_neg k, if_neg k]

/-- nothing else has turned, the old order apart -/
structure FrO (F : Ft) (w : Rw) (H H' : Hp) : Prop where
  len : H.length ≤ H'.length
  old : ∀ j, j < H.length → j ≠ F.b → j ≠ F.r → j ≠ F.s → j ≠ F.t → (∀ m, w.ord ≠ .msl j 0 m) → H'[j]? = H[j]?
theorem Fr.o {F : Ft} {w : Rw} {H H' : Hp} (h : Fr F H H') : FrO F w H H' := ⟨h.len, fun j hj a b c d _ => h.old j hj a b c d⟩
theorem FrO.trans {F : Ft} {w : Rw} {H H' H'' : Hp} (h : FrO F w H H') (k : Fr F H' H'') : FrO F w H H'' :=
  ⟨Nat.le_trans h.len k.len, fun j hj a b c d e => (k.old j (Nat.lt_of_lt_of_le hj h.len) a b c d).trans (h.old j hj a b c d e)⟩
theorem FrO.hi {F : Ft} {w : Rw} {H D : Hp} (h : FrO F w H D) {s : Nat} (hs : H.length ≤ s) (c : AObj) : FrO F w H (D.set s c) :=
  ⟨by simpa using h.len, fun j hj a b d e f => by rw [List.getElem?_set_ne (by omega)]; exact h.old j hj a b d e f⟩
theorem FrO.app {F : Ft} {w : Rw} {H D : Hp} (h : FrO F w H D) (X : Hp) : FrO F w H (D ++ X) :=
  ⟨by have := h.len; simp; omega, fun j hj a b d e f => by rw [List.getElem?_append_left (by have := h.len; omega)]; exact h.old j hj a b d e f⟩
theorem OrdAt.zero {H : Hp} {a : AV} {ids : List Int} (h : OrdAt H a ids) : ∀ b o n, a = .msl b o n → o = 0 := by
  intro b o n e
  cases h with
  | nil => cases e
  | emp => cases e
  | row _ _ _ => cases e; rfl
/-- forgetting the order's row -/
theorem ownK_get {H : Hp} {a : AV} {j : Nat} (hn : ∀ o n, a ≠ .msl j o n) : (ownK H a)[j]? = H[j]? := by
  unfold ownK
  split
  · rename_i b o n
    rw [List.getElem?_set_ne]
    rintro rfl; exact hn _ _ rfl
  · rfl
theorem FrO.own {F : Ft} {w : Rw} {H D : Hp} {ids : List Int} (h : FrO F w H D) (hO : OrdAt H w.ord ids) : FrO F w H (ownK D w.ord) :=
  ⟨by rw [ownK_len]; exact h.len, fun j hj a b c d e => by
    rw [ownK_get fun o n k => e n (by rw [k, hO.zero _ _ _ k])]; exact h.old j hj a b c d e⟩
/-- the order's row is not one of the other blocks -/
theorem RepW.ordNe {H : Hp} {F : Ft} {w : Rw} {ids : List Int} (h : RepW H F w) (hO : OrdAt H w.ord ids) (j : Nat) (hj : j = F.b ∨ j = F.r ∨ j = F.s ∨ j = F.t) : ∀ o n, w.ord ≠ .msl j o n := by
  intro o n e
  have := hO.zero _ _ _ e
  subst this
  obtain ⟨v, hv, _⟩ := hO.blk e
  rcases hj with rfl | rfl | rfl | rfl
  · rw [h.hb] at hv; simp at hv
  · rw [h.hr] at hv; simp at hv
  · rw [h.hs] at hv; simp at hv
  · rw [h.ht] at hv; simp at hv
theorem RepW.own {H : Hp} {F : Ft} {w : Rw} {ids : List Int} (h : RepW H F w) (hO : OrdAt H w.ord ids) : RepW (ownK H w.ord) F w :=
  ⟨by rw [ownK_get (h.ordNe hO _ (.inl rfl))]; exact h.hb, by rw [ownK_get (h.ordNe hO _ (.inr (.inl rfl)))]; exact h.hr, by rw [ownK_get (h.ordNe hO _ (.inr (.inr (.inl rfl))))]; exact h.hs,
   by rw [ownK_get (h.ordNe hO _ (.inr (.inr (.inr rfl))))]; exact h.ht, h.rs, h.rt, h.st⟩

/-- what Put comes to -/
def PutPost (H : Hp) (F : Ft) (w : Rw) (S : Bf) (r : Item) (v1 : AV) (H1 : Hp) : Prop :=
  ∃ w', v1 = .tup [.rsl (ints (putR S r).2) false, iv (putE S r)] ∧ Rep H1 F w' (putR S r).1 ∧ FrO F w H H1 ∧ (w'.ord = w.ord ∨ ∀ j m, w'.ord = .msl j 0 m → H.length ≤ j)

theorem putNo {H : Hp} {F : Ft} {w : Rw} {S : Bf} {r : Item} (hR : Rep H F w S) {e : Int} (he : putE S r = e) (hne : e ≠ 0) {H1 : Hp} (hG : Grow H H1) {T : Env} {fn : Func} (hr : resL Try.prog T H1 fn.results.toList = some [nilS, iv e]) {x : Exit} (hx : x = .normal ∨ x = .ret) :
    bodyQ Try.prog fn H (PutPost H F w S r) x T H1 := by
  have hS : putR S r = (S, []) := by unfold putR; rw [if_neg (by rw [he]; exact hne)]
  refine bodyQ_mk (vs := [nilS, iv e]) (a := .tup [.rsl [] false, iv e]) (H' := H1) hx hr Vs.nil2 ⟨w, ?_, ?_, hG.fr.o, .inl rfl⟩
  · rw [hS, he]; rfl
  · rw [hS]; exact hR.grow hG

theorem putE_ok (S : Bf) (r : Item) : (¬ r.ok ∧ r.code = 2 ∧ putE S r = 2) ∨ (r.ok ∧ r.code = 0 ∧ ((r.id ∈ idsL S.L ∧ putE S r = 12) ∨ (r.id ∉ idsL S.L ∧ ((r.pk > S.cap ∧ putE S r = 14) ∨ (¬ r.pk > S.cap ∧ putE S r = 0))))) := by
  unfold putE Item.code
  by_cases h : r.ok
  · right
    refine ⟨h, if_pos h, ?_⟩
    rw [if_neg (fun n => n h)]
    by_cases k : r.id ∈ idsL S.L
    · exact .inl ⟨k, if_pos k⟩
    · right
      refine ⟨k, ?_⟩
      rw [if_neg k]
      by_cases m : r.pk > S.cap
      · exact .inl ⟨m, if_pos m⟩
      · exact .inr ⟨m, if_neg m⟩
  · left
    exact ⟨h, if_neg h, if_pos h⟩

end Go.Proofs.Ytlhchnnfgppneaa.Ab
namespace Go.Proofs.Ytlhchnnfgppneaa.Ab
open Go Go.RowKit Go.Proofs
set_option linter.unusedSimpArgs false
set_option linter.unusedVariables false
attribute [local irreducible] Awp wpO thenQ blockQ bodyQ ACalls stepA

def tl : Code → Code
  | .seq _ y => y
  | c => c

set_option maxRecDepth 8000 in
set_option maxHeartbeats 8000000 in
theorem put12 {H K : Hp} {F : Ft} {w : Rw} {S : Bf} {T : Env} {r : Item} {Q : Exit → Env → Hp → Prop} (hG : Grow H K) (hR : Rep K F w S) (hg : Good S) (hl : S.L.length ≤ 256) (hr : r.ok) (hn : r.id ∉ idsL S.L)
    (t2 : T 2 = .rptr [.mptr F.b 0 0] 0) (t3 : T 3 = .rptr [iv r.id, iv r.cls, iv r.made, iv r.size, iv r.pk] 0) (t9 : T 9 = iv (placeN S.L r))
    (h : ∀ T K2 w2, T 2 = .rptr [.mptr F.b 0 0] 0 → Rep K2 F w2 (S.ins r) → FrO F w K K2 → (∃ n, w2.ord = .msl (K.length + 1) 0 n) → Awp Try.prog 131 none (tl (tl (tl (tl (tl (tl (tl (tl (tl (Try.f24.body.getD .skip)))))))))) T K2 Q) : Awp Try.prog 131 none (tl (tl (tl (tl (tl (tl (Try.f24.body.getD .skip))))))) T K Q := by
  unfold Try.f24 at h ⊢
  simp only [tl, Option.getD_some] at h ⊢
  have hO := hR.ord
  have hil : (idsL S.L).length = S.L.length := by simp [idsL]
  have hpN := placeN_le r S.L
  have hb := hR.raw.hb
  simp only [Rw.cs] at hb
  have hbb := held hb
  have hG1 : Grow K (K ++ [AObj.cells [[iv r.id]] 2]) := (Grow.refl _).app _
  have hO1 := hO.grow hG1
  have hR1 := hR.raw.grow hG1
  have hin := insert_ok hO1 (vb := K.length) (y := r.id) (get_new _ _) (fun o n e => by
    obtain ⟨v, hv, _⟩ := hO.blk e
    have := (List.getElem?_eq_some_iff.1 hv).1
    omega) (placeN S.L r) (by omega) (by omega)
  have hR2 := (hR1.own hO1).app [.cells (ints (insA (placeN S.L r) r.id (idsL S.L))) 2]
  have hb2 := hR2.hb
  simp only [Rw.cs] at hb2
  have hl2 : (K ++ [AObj.cells [[iv r.id]] 2]).length = K.length + 1 := by simp
  rw [hl2] at hin
  refine Awp.seq ?_
  repeat' ((fail_if_success (apply stopR (id := 13))); (fail_if_success (apply stopS (id := 13))); first | refine spD (fun _ => ?_) (fun _ => ?_) | refine spF (fun _ => ?_) (fun _ => ?_) | (apply gT; (exact rfl)) | (apply off; (exact rfl); (exact rfl)) | (apply condT; (exact rfl)) | (apply condF; (exact rfl)) | ((first | (apply stp0; (exact rfl); (exact rfl)) | (apply stpN0; (exact rfl)) | apply gT | apply condT | ((first | apply bodyQ_d0 | apply bodyQ_d1 | apply bodyQ_d2 | apply bodyQ_d3 | apply bodyQ_d4); (exact .inr rfl); (rw [Try.results24]))); (first | (focus (simp only [go_sem, ↓reduceIte, simprocAttr, t2, t3, t9, hb, hbb, hb2] <;> rfl)) | exact rfl); (first | (fail_if_success (show okD _ _ _ _ _ _ _ _ _)) | (first | exact trivial | exact ⟨fun _ => rfl, fun _ _ => rfl, fun h => Bool.noConfusion (show false = true from h)⟩ | (refine ⟨fun _ => rfl, fun _ _ => rfl, fun _ H2 hk => ?_⟩; have e := (hk (F.b) (beq_self_eq_true _)).trans (hb); unfold PerfTo; simp only [callOf]; (focus first | (simp only [go_sem, ↓reduceIte, simprocAttr, t2, t3, t9, hb, hbb, hb2, e]; done) | (simp only [go_sem, ↓reduceIte, simprocAttr, t2, t3, t9, hb, hbb, hb2, e]; rfl))) | (refine ⟨fun h => Bool.noConfusion (show true = false from h), fun b hQ => ?_, fun h => Bool.noConfusion (show false = true from h)⟩; have hQ' := eq_of_beq hQ; subst hQ'; (first | (focus (simp only [hbb, hb]; done)) | (exact hb2.trans hb.symm) | (exact hb2.trans (hbb.2.1 _).symm))))); (first | (fail_if_success (show Bel _ _)) | (focus first | exact .val _ | (simp [oneOf, Bel_iff_tup, Bel_iff_agg, Bel_iff_rsl, Bel_iff_fn, Bel_iff_rptr, Bel_val]; done)))) | (apply calTo0; (exact rfl); (iterate 2 (simp only [go_sem, ↓reduceIte, simprocAttr, t2, t3, t9, hb, hbb, hb2]; rfl)); (first | exact hin); (first | exact trivial | exact ⟨fun _ => rfl, fun _ _ => rfl, fun h => Bool.noConfusion (show false = true from h)⟩ | (refine ⟨fun _ => rfl, fun _ _ => rfl, fun _ H2 hk => ?_⟩; have e := (hk (F.b) (beq_self_eq_true _)).trans (hb); unfold PerfTo; simp only [callOf]; (focus first | (simp only [go_sem, ↓reduceIte, simprocAttr, t2, t3, t9, hb, hbb, hb2, e]; done) | (simp only [go_sem, ↓reduceIte, simprocAttr, t2, t3, t9, hb, hbb, hb2, e]; rfl))) | (refine ⟨fun h => Bool.noConfusion (show true = false from h), fun b hQ => ?_, fun h => Bool.noConfusion (show false = true from h)⟩; have hQ' := eq_of_beq hQ; subst hQ'; (first | (focus (simp only [hbb, hb]; done)) | (exact hb2.trans hb.symm) | (exact hb2.trans (hbb.2.1 _).symm))))) | refine thenQ_n ?_ | refine thenQ_r ?_ | refine thenQ_e ?_ | refine blockQ_n ?_ | refine blockQ_r ?_ | refine blockQ_e ?_ | (apply blockQ_o; (exact rfl)) | refine Awp.seq ?_ | refine Awp.skip ?_ | refine Awp.block ?_ | refine reg (fun s => s == 7 || s == 54) ?_ | (apply drwL mixed (fun s => s == 7 || s == 54) ⟨fun i => i == 8 || i == 9, fun i => i == 0 || i == 1 || i == 4 || i == 7, fun b => b == F.b⟩; (exact rfl); (kernel_rfl); (kernel_rfl); simp only [List.pop_toArray, List.dropLast_cons_cons, List.dropLast_singleton, List.map_cons, List.map_nil]) | refine fin ?_ | refine Awp.ret ?_ | refine Awp.exit ?_ | ((first | (apply off; (exact rfl)) | apply condF); (first | (focus (simp only [go_sem, ↓reduceIte, simprocAttr, t2, t3, t9, hb, hbb, hb2] <;> rfl)) | exact rfl)))
  all_goals first | contradiction | (exfalso; omega) | skip
  have hl3 : (idsL S.L).length + 1 = (insA (placeN S.L r) r.id (idsL S.L)).length := insA_len.symm
  obtain ⟨R3, F3⟩ := hR2.setB w.used w.time (.msl (K.length + 1) 0 ((idsL S.L).length + 1))
  have b3 := R3.hb
  have u3 := mT40.upd R3.hr r.id (.agg [iv r.id, iv r.cls, iv r.made, iv r.size, iv r.pk])
  obtain ⟨R4, F4⟩ := R3.setR (setM r.id (.agg [iv r.id, iv r.cls, iv r.made, iv r.size, iv r.pk]) w.kr)
  have b4 := R4.hb
  obtain ⟨R5, F5⟩ := R4.setB (w.used + r.size) w.time (.msl (K.length + 1) 0 ((idsL S.L).length + 1))
  have hus := hg.used
  have hok := hr
  simp only [Item.ok] at hok
  have w5 : IntKind.i64.wrap (w.used + r.size) = w.used + r.size := by rw [hR.used]; exact w64 (by omega) (by omega)
  simp only [Rw.cs] at b3 b4
  refine Awp.withT (fun T' => T' 2 = .rptr [.mptr F.b 0 0] 0 ∧ T' 3 = .rptr [iv r.id, iv r.cls, iv r.made, iv r.size, iv r.pk] 0) ⟨?_, ?_⟩ ?_
  · (first | (focus (simp only [go_sem, ↓reduceIte, simprocAttr, t2]; first | done | rfl)) | rfl)
  · (first | (focus (simp only [go_sem, ↓reduceIte, simprocAttr, t3]; first | done | rfl)) | rfl)
  clear t2 t3 t9 hbb T
  rintro T ⟨t2, t3⟩
  repeat' ((fail_if_success (apply stopR (id := 15))); (fail_if_success (apply stopS (id := 15))); first | refine spD (fun _ => ?_) (fun _ => ?_) | refine spF (fun _ => ?_) (fun _ => ?_) | (apply gT; (exact rfl)) | (apply off; (exact rfl); (exact rfl)) | (apply condT; (exact rfl)) | (apply condF; (exact rfl)) | ((first | (apply stp0; (exact rfl); (exact rfl)) | (apply stpN0; (exact rfl)) | apply gT | apply condT | ((first | apply bodyQ_d0 | apply bodyQ_d1 | apply bodyQ_d2 | apply bodyQ_d3 | apply bodyQ_d4); (exact .inr rfl); (rw [Try.results24]))); (first | (focus (simp only [go_sem, ↓reduceIte, simprocAttr, t2, t3, b3, b4, u3, w5] <;> rfl)) | exact rfl); (first | (fail_if_success (show okD _ _ _ _ _ _ _ _ _)) | (first | exact okT | exact okN | exact okE rfl)); (first | (fail_if_success (show Bel _ _)) | (focus first | exact .val _ | (simp [oneOf, Bel_iff_tup, Bel_iff_agg, Bel_iff_rsl, Bel_iff_fn, Bel_iff_rptr, Bel_val]; done)))) | refine thenQ_n ?_ | refine thenQ_r ?_ | refine thenQ_e ?_ | refine blockQ_n ?_ | refine blockQ_r ?_ | refine blockQ_e ?_ | (apply blockQ_o; (exact rfl)) | refine Awp.seq ?_ | refine Awp.skip ?_ | refine Awp.block ?_ | refine reg (fun s => s == 7) ?_ | (apply drwL mixed (fun s => s == 7) (.of fun _ => false); (exact rfl); (kernel_rfl); (kernel_rfl); simp only [List.pop_toArray, List.dropLast_cons_cons, List.dropLast_singleton, List.map_cons, List.map_nil]) | refine fin ?_ | refine Awp.ret ?_ | refine Awp.exit ?_ | ((first | (apply off; (exact rfl)) | apply condF); (first | (focus (simp only [go_sem, ↓reduceIte, simprocAttr, t2, t3, b3, b4, u3, w5] <;> rfl)) | exact rfl)))
  all_goals first | contradiction | (exfalso; omega) | skip
  have hKl : ∀ o n, w.ord = .msl o 0 n → o < K.length := fun o n e => by
    obtain ⟨v, hv, _⟩ := hO.blk e
    exact (List.getElem?_eq_some_iff.1 hv).1
  have hrow : (ownK (K ++ [AObj.cells [[iv r.id]] 2]) w.ord ++ [.cells (ints (insA (placeN S.L r) r.id (idsL S.L))) 2])[K.length + 1]? = some (.cells (ints (insA (placeN S.L r) r.id (idsL S.L))) 2) := by
    have e : (ownK (K ++ [AObj.cells [[iv r.id]] 2]) w.ord).length = K.length + 1 := by rw [ownK_len]; simp
    rw [← e]; exact get_new _ _
  have hid : idsL (S.ins r).L = insA (placeN S.L r) r.id (idsL S.L) := insA_map _ _ _ _
  have hor : OrdAt (ownK (K ++ [AObj.cells [[iv r.id]] 2]) w.ord ++ [.cells (ints (insA (placeN S.L r) r.id (idsL S.L))) 2]) (.msl (K.length + 1) 0 ((idsL S.L).length + 1)) (idsL (S.ins r).L) := by
    have := OrdAt.row (n := (idsL S.L).length + 1) hrow (by rw [hl3]; exact Nat.le_refl _) (by rw [← hl3]; omega)
    rw [List.take_of_length_le (by rw [hl3]; exact Nat.le_refl _)] at this
    rw [hid]; exact this
  have q1 := ((hor.set hR2.hb (fun v => b109_ne v) (.cells [[iv w.cap, iv w.used, iv w.time, .msl (K.length + 1) 0 ((idsL S.L).length + 1), .mp F.r, .mp F.s, .mp F.t]] 109)).set R3.hr (fun v => amap_ne v) (.amap (ents (setM r.id (.agg [iv r.id, iv r.cls, iv r.made, iv r.size, iv r.pk]) w.kr)))).set R4.hb (fun v => b109_ne v) (.cells [[iv w.cap, iv (w.used + r.size), iv w.time, .msl (K.length + 1) 0 ((idsL S.L).length + 1), .mp F.r, .mp F.s, .mp F.t]] 109)
  have q2 : MapIs (setM r.id (.agg [iv r.id, iv r.cls, iv r.made, iv r.size, iv r.pk]) w.kr) (recF (S.ins r).L) := hR.mr.set _ _ fun y => by
    show recF (insA (placeN S.L r) ⟨r, false, -1⟩ S.L) y = _
    unfold recF; rw [findH_ins (x := ⟨r, false, -1⟩) y _ _ hn]
    split <;> rfl
  have q3 : MapIs w.ks (smF (S.ins r).L) := hR.ms.congr fun y => by
    show smF (insA (placeN S.L r) ⟨r, false, -1⟩ S.L) y = _
    unfold smF; rw [findH_ins (x := ⟨r, false, -1⟩) y _ _ hn]
    split
    · rename_i e
      have e2 : findH S.L y = none := findH_none.2 (by rw [e]; exact hn)
      rw [e2]; rfl
    · rfl
  have q4 : MapIs w.kt (stF (S.ins r).L) := hR.mt.congr fun y => by
    show stF (insA (placeN S.L r) ⟨r, false, -1⟩ S.L) y = _
    unfold stF; rw [findH_ins (x := ⟨r, false, -1⟩) y _ _ hn]
    split
    · rename_i e
      have e2 : findH S.L y = none := findH_none.2 (by rw [e]; exact hn)
      rw [e2]; rfl
    · rfl
  have hF : FrO F w K (ownK (K ++ [AObj.cells [[iv r.id]] 2]) w.ord ++ [.cells (ints (insA (placeN S.L r) r.id (idsL S.L))) 2]) := ((((Fr.refl F K).app _).o (w := w)).own hO).app _
  refine h _ _ _ ?_ (Rep.mk (S := S.ins r) R5 hR.cap (by show w.used + r.size = S.used + r.size; rw [hR.used]) hR.time q1 q2 q3 q4) (((hF.trans F3).trans F4).trans F5) ⟨_, rfl⟩
  (first | (focus (simp only [go_sem, ↓reduceIte, simprocAttr, t2]; first | done | rfl)) | rfl)

end Go.Proofs.Ytlhchnnfgppneaa.Ab
namespace Go.Proofs.Ytlhchnnfgppneaa.Ab
open Go Go.RowKit Go.Proofs
set_option linter.unusedSimpArgs false
set_option linter.unusedVariables false
attribute [local irreducible] Awp wpO thenQ blockQ bodyQ ACalls stepA

def hdC : Code → Code
  | .seq x _ => x
  | c => c
def inC : Code → Code
  | .block _ c => c
  | .loop c => c
  | c => c

/-- what is taken off the end -/
structure Cut (H K : Hp) (F : Ft) (w w' : Rw) (S : Bf) (o : Nat) (a : AV) (ds : List Int) : Prop where
  rep : Rep K F w' S
  good : Good S
  row : w'.ord = .msl o 0 S.L.length
  lo : H.length ≤ o
  own : Own H.length 2 K a (ints ds)
  fr : FrO F w H K
  ne : ∀ m, a ≠ .msl o 0 m
  len : ds.length + S.L.length ≤ 257
  ge : F.b < H.length ∧ F.r < H.length ∧ F.s < H.length ∧ F.t < H.length

theorem FrO.ownA {F : Ft} {w : Rw} {H D : Hp} {t : TypeId} {a : AV} {es : List (List AV)} (h : FrO F w H D) (hO : Own H.length t D a es) : FrO F w H (ownK D a) :=
  ⟨by rw [ownK_len]; exact h.len, fun j hj b c d e f => by rw [ownK_low hO hj]; exact h.old j hj b c d e f⟩
theorem ints_one (v : List Int) : ∀ e ∈ ints v, e.length = 1 := by
  intro e he
  obtain ⟨x, _, rfl⟩ := List.mem_map.1 he
  rfl
theorem ints_app (v : List Int) (x : Int) : ints v ++ [[iv x]] = ints (v ++ [x]) := by simp [ints]

set_option maxRecDepth 8000 in
set_option maxHeartbeats 8000000 in
theorem put18 {H K : Hp} {F : Ft} {w w' : Rw} {S : Bf} {o : Nat} {a : AV} {ds : List Int} {T : Env} {Q : Exit → Env → Hp → Prop} (h : Cut H K F w w' S o a ds) {x : Hd} (hx : S.L.getLast? = some x)
    (t2 : T 2 = .rptr [.mptr F.b 0 0] 0) (t10 : T 10 = a)
    (hq : ∀ T2 K2 w2 a2, T2 2 = .rptr [.mptr F.b 0 0] 0 → T2 10 = a2 → Cut H K2 F w w2 S.drop o a2 (ds ++ [S.lastId]) → Q .normal T2 K2) :
    Awp Try.prog 131 none (tl (inC (tl (inC (inC (hdC (tl (tl (tl (tl (tl (tl (tl (tl (tl (tl (Try.f24.body.getD .skip))))))))))))))))) T K Q := by
  unfold Try.f24
  simp only [tl, hdC, inC, Option.getD_some]
  have hb := h.rep.raw.hb
  have hg := h.good
  obtain ⟨v, hv, hnv, h0, hids⟩ := h.rep.ord.blk h.row
  have hvl := ints_len v
  have hs := last_split hx
  obtain ⟨m, hm⟩ : ∃ m, S.L.length = m + 1 := ⟨S.L.dropLast.length, by
    have := congrArg List.length hs
    rw [List.length_append, List.length_singleton] at this
    exact this⟩
  have hlen := hg.len
  have hm2 : m = S.L.dropLast.length := by rw [List.length_dropLast]; omega
  have hvm : v[m]? = some x.r.id := by
    have h1 : (idsL S.L)[m]? = some x.r.id := by
      unfold idsL
      rw [List.getElem?_map]
      have : S.L[m]? = some x := by conv => lhs; rw [hs]; simp [hm2]
      rw [this]; rfl
    rw [hids, List.getElem?_take, if_pos (by omega)] at h1
    exact h1
  have hrow : (ints v)[m]? = some [iv x.r.id] := nthMap (fun x => [iv x]) hvm
  have hrow2 := h.row
  rw [hm] at hnv hrow2
  have wm : IntKind.i64.wrap (((m + 1 : Nat) : Int) - 1) = (m : Int) := by rw [w64 (by omega) (by omega)]; omega
  have hsl : sliceA Try.prog 46 (.msl o 0 (m + 1)) none (some (iv m)) none = some (.msl o 0 m) := by
    rw [sl46]
    unfold sliceB bnd
    have e0 : (0 : Int) ≤ (m : Int) := by omega
    simp only [e0, if_true, Int.toNat_natCast]
    rw [if_pos (by omega)]
  have hm1 : m < m + 1 := Nat.lt_succ_self m
  obtain ⟨R1, F1⟩ := h.rep.raw.setB w'.used w'.time (.msl o 0 m)
  have b1 := R1.hb
  simp only [Rw.cs, hrow2] at hb b1
  repeat' ((fail_if_success (apply stopR (id := 21))); (fail_if_success (apply stopS (id := 21))); first | refine spD (fun _ => ?_) (fun _ => ?_) | refine spF (fun _ => ?_) (fun _ => ?_) | (apply gT; (exact rfl)) | (apply off; (exact rfl); (exact rfl)) | (apply condT; (exact rfl)) | (apply condF; (exact rfl)) | ((first | (apply stp0; (exact rfl); (exact rfl)) | (apply stpN0; (exact rfl)) | apply gT | apply condT | ((first | apply bodyQ_d0 | apply bodyQ_d1 | apply bodyQ_d2 | apply bodyQ_d3 | apply bodyQ_d4); (exact .inr rfl); (rw [Try.results24]))); (first | (focus (simp only [go_sem, ↓reduceIte, simprocAttr, t2, t10, hb, hv, hvl, hrow, wm, hsl, hm1, Nat.zero_add, b1] <;> rfl)) | exact rfl); (first | (fail_if_success (show okD _ _ _ _ _ _ _ _ _)) | (first | exact okT | exact okN | exact okE rfl)); (first | (fail_if_success (show Bel _ _)) | (focus first | exact .val _ | (simp [oneOf, Bel_iff_tup, Bel_iff_agg, Bel_iff_rsl, Bel_iff_fn, Bel_iff_rptr, Bel_val]; done)))) | refine thenQ_n ?_ | refine thenQ_r ?_ | refine thenQ_e ?_ | refine blockQ_n ?_ | refine blockQ_r ?_ | refine blockQ_e ?_ | (apply blockQ_o; (exact rfl)) | refine Awp.seq ?_ | refine Awp.skip ?_ | refine Awp.block ?_ | refine reg (fun s => s == 7) ?_ | (apply drwL mixed (fun s => s == 7) (.of fun _ => false); (exact rfl); (kernel_rfl); (kernel_rfl); simp only [List.pop_toArray, List.dropLast_cons_cons, List.dropLast_singleton, List.map_cons, List.map_nil]) | refine fin ?_ | refine Awp.ret ?_ | refine Awp.exit ?_ | ((first | (apply off; (exact rfl)) | apply condF); (first | (focus (simp only [go_sem, ↓reduceIte, simprocAttr, t2, t10, hb, hv, hvl, hrow, wm, hsl, hm1, Nat.zero_add, b1] <;> rfl)) | exact rfl)))
  all_goals first | contradiction | (exfalso; omega) | skip
  refine Awp.withT (fun T' => T' 2 = .rptr [.mptr F.b 0 0] 0 ∧ T' 10 = a ∧ T' 12 = iv x.r.id) ⟨?_, ?_, ?_⟩ ?_
  · (first | (focus (simp only [go_sem, ↓reduceIte, simprocAttr, t2]; first | done | rfl)) | rfl)
  · (first | (focus (simp only [go_sem, ↓reduceIte, simprocAttr, t10]; first | done | rfl)) | rfl)
  · (first | (focus (simp only [go_sem, ↓reduceIte, simprocAttr]; first | done | rfl)) | rfl)
  clear t2 t10 T
  rintro T ⟨t2, t10, t12⟩
  obtain ⟨g1, g2, g3, g4⟩ := h.ge
  have hO1 := h.own.setLow g1 (.cells [[iv w'.cap, iv w'.used, iv w'.time, .msl o 0 m, .mp F.r, .mp F.s, .mp F.t]] 109)
  have hv1 : (K.set F.b (.cells [[iv w'.cap, iv w'.used, iv w'.time, .msl o 0 m, .mp F.r, .mp F.s, .mp F.t]] 109))[o]? = some (.cells (ints v) 2) := by
    have := h.lo
    rw [List.getElem?_set_ne (by omega)]; exact hv
  have hFr1 := h.fr.trans F1
  generalize List.set K F.b (.cells [[iv w'.cap, iv w'.used, iv w'.time, .msl o 0 m, .mp F.r, .mp F.s, .mp F.t]] 109) = B at *
  have hxm : S.L[m]? = some x := by conv => lhs; rw [hs]; simp [hm2]
  have hfx := findH_at hg.nd hxm
  have hk1 : (getM w'.kr x.r.id).getD recZ = .agg x.r.cs := by rw [h.rep.mr.get]; unfold recF; rw [hfx]; rfl
  have hk2 : (getM w'.ks x.r.id).getD (iv 0) = iv (if x.sm then 1 else 0) := by rw [h.rep.ms.get]; unfold smF; rw [hfx]; cases e : x.sm <;> simp [e]
  have hby : (if (if x.sm then (1 : Int) else 0) > 0 then x.r.pk else x.r.size) = x.bytes := by unfold Hd.bytes; cases e : x.sm <;> simp
  have hus := hg.used
  have hok := hg.ok x (List.mem_of_getElem? hxm)
  have hbd : 1 ≤ x.bytes ∧ x.bytes ≤ 16777216 := by
    simp only [Item.ok] at hok
    unfold Hd.bytes; split <;> omega
  have hrm := remove_ok R1 x.r.id x.r (if x.sm then 1 else 0) hk1 hk2 (by
    rw [hby]
    show -1099511627776 ≤ w'.used - x.bytes ∧ w'.used - x.bytes ≤ 1099511627776
    rw [h.rep.used]
    omega)
  rw [hby] at hrm
  repeat' (first | refine spD (fun _ => ?_) (fun _ => ?_) | refine spF (fun _ => ?_) (fun _ => ?_) | (apply gT; (exact rfl)) | (apply off; (exact rfl); (exact rfl)) | (apply condT; (exact rfl)) | (apply condF; (exact rfl)) | ((first | (apply stp0; (exact rfl); (exact rfl)) | (apply stpN0; (exact rfl)) | apply gT | apply condT | ((first | apply bodyQ_d0 | apply bodyQ_d1 | apply bodyQ_d2 | apply bodyQ_d3 | apply bodyQ_d4); (exact .inr rfl); (rw [Try.results24]))); (first | (focus (simp only [go_sem, ↓reduceIte, simprocAttr, t2, t10, t12] <;> rfl)) | exact rfl); (first | (fail_if_success (show okD _ _ _ _ _ _ _ _ _)) | (first | exact okT | exact okN | exact okE rfl)); (first | (fail_if_success (show Bel _ _)) | (focus first | exact .val _ | (simp [oneOf, Bel_iff_tup, Bel_iff_agg, Bel_iff_rsl, Bel_iff_fn, Bel_iff_rptr, Bel_val]; done)))) | refine thenQ_n ?_ | refine thenQ_r ?_ | refine thenQ_e ?_ | refine blockQ_n ?_ | refine blockQ_r ?_ | refine blockQ_e ?_ | (apply blockQ_o; (exact rfl)) | refine Awp.seq ?_ | refine Awp.skip ?_ | refine Awp.block ?_ | refine reg (fun s => s == 7) ?_ | (apply drwE mixed (fun s => s == 7); (kernel_rfl)) | refine fin ?_ | refine Awp.ret ?_ | refine Awp.exit ?_ | ((first | (apply off; (exact rfl)) | apply condF); (first | (focus (simp only [go_sem, ↓reduceIte, simprocAttr, t2, t10, t12] <;> rfl)) | exact rfl)))
  all_goals first | contradiction | (exfalso; omega) | skip
  refine cal rfl rfl rfl ?_ (show ACallV Try.prog (.fn (.func 61) []) [.mptr F.b 0 0, iv x.r.id] B _ from hrm) ?_
  · (first | (focus (simp only [go_sem, ↓reduceIte, simprocAttr, t2, t12]; first | done | rfl)) | rfl)
  rintro v1 H1 ⟨rfl, R2, F2⟩
  have hHl : B.length ≤ H1.length := F2.len
  have hol : o < B.length := (List.getElem?_eq_some_iff.1 hv1).1
  have hnf : ∀ j, H.length ≤ j → j ≠ F.b ∧ j ≠ F.r ∧ j ≠ F.s ∧ j ≠ F.t := fun j hj => ⟨by omega, by omega, by omega, by omega⟩
  have hO2 : Own H.length 2 H1 a (ints ds) := hO1.get fun j ob hj hb => by
    obtain ⟨e1, e2, e3, e4⟩ := hnf j hj
    rw [F2.old j (List.getElem?_eq_some_iff.1 hb).1 e1 e2 e3 e4]; exact hb
  have hv2 : H1[o]? = some (.cells (ints v) 2) := by
    obtain ⟨e1, e2, e3, e4⟩ := hnf o h.lo
    rw [F2.old o hol e1 e2 e3 e4]; exact hv1
  have hlen2 := h.len
  have hOR : OwnR H.length 2 1 8 H1 a (ints ds) := ⟨hO2, ints_one _, by rw [ints_len]; omega⟩
  have hFr2 := hFr1.trans F2
  repeat' (first | refine spD (fun _ => ?_) (fun _ => ?_) | refine spF (fun _ => ?_) (fun _ => ?_) | (apply gT; (exact rfl)) | (apply off; (exact rfl); (exact rfl)) | (apply condT; (exact rfl)) | (apply condF; (exact rfl)) | ((first | (apply stp0; (exact rfl); (exact rfl)) | (apply stpN0; (exact rfl)) | apply gT | apply condT | ((first | apply bodyQ_d0 | apply bodyQ_d1 | apply bodyQ_d2 | apply bodyQ_d3 | apply bodyQ_d4); (exact .inr rfl); (rw [Try.results24]))); (first | (focus (simp only [go_sem, ↓reduceIte, simprocAttr, t2, t10, t12] <;> rfl)) | exact rfl); (first | (fail_if_success (show okD _ _ _ _ _ _ _ _ _)) | (first | exact okT | exact okN | exact okE rfl)); (first | (fail_if_success (show Bel _ _)) | (focus first | exact .val _ | (simp [oneOf, Bel_iff_tup, Bel_iff_agg, Bel_iff_rsl, Bel_iff_fn, Bel_iff_rptr, Bel_val]; done)))) | (apply stpApp; (exact rfl); (first | exact hOR); (iterate 2 (first | (focus (simp only [go_sem, ↓reduceIte, simprocAttr, t2, t10, t12] <;> rfl)) | rfl)); (first | rfl | (simp [AV.isCell]; done)); (first | rfl | (simp; done)); (first | exact ap39 | exact ap44 | exact ap46 | exact ap61 | exact ap63 | exact ap75 | exact ap86 | exact ap101 | exact ap102); (first | exact okT | exact okN | exact okE rfl)) | refine thenQ_n ?_ | refine thenQ_r ?_ | refine thenQ_e ?_ | refine blockQ_n ?_ | refine blockQ_r ?_ | refine blockQ_e ?_ | (apply blockQ_o; (exact rfl)) | refine Awp.seq ?_ | refine Awp.skip ?_ | refine Awp.block ?_ | refine reg (fun s => s == 7) ?_ | (apply drwE mixed (fun s => s == 7); (kernel_rfl)) | refine fin ?_ | refine Awp.ret ?_ | refine Awp.exit ?_ | ((first | (apply off; (exact rfl)) | apply condF); (first | (focus (simp only [go_sem, ↓reduceIte, simprocAttr, t2, t10, t12] <;> rfl)) | exact rfl)))
  all_goals first | contradiction | (exfalso; omega) | skip
  obtain ⟨d1, d2⟩ := drop_eq hx
  have hK2 : ∀ j, j < H.length → (ownK H1 a ++ [AObj.cells (ints ds ++ [[iv x.r.id]]) 2])[j]? = H1[j]? := fun j hj => by
    rw [List.getElem?_append_left (by rw [ownK_len]; have := hFr2.len; omega)]; exact ownK_low hO2 hj
  have R3 : RepW (ownK H1 a ++ [AObj.cells (ints ds ++ [[iv x.r.id]]) 2]) F _ := ⟨(hK2 _ g1).trans R2.hb, (hK2 _ g2).trans R2.hr, (hK2 _ g3).trans R2.hs, (hK2 _ g4).trans R2.ht, R2.rs, R2.rt, R2.st⟩
  have hv3 : (ownK H1 a ++ [AObj.cells (ints ds ++ [[iv x.r.id]]) 2])[o]? = some (.cells (ints v) 2) := by
    rw [List.getElem?_append_left (by rw [ownK_len]; omega), ownK_get fun o' n e => h.ne n (by rw [e, hO2.zero _ _ _ e])]; exact hv2
  have hLs : idsL S.L.dropLast = v.take m := by
    have e1 : idsL S.L = idsL S.L.dropLast ++ [x.r.id] := by
      have := congrArg idsL hs
      unfold idsL at this ⊢
      rw [List.map_append] at this
      exact this
    have e2 := hids
    rw [e1, hm, List.take_add_one, hvm] at e2
    exact (List.append_inj' e2 (by simp)).1
  have hnd2 : (idsL (S.L.dropLast ++ [x])).Nodup := by rw [← hs]; exact hg.nd
  have q1 : OrdAt (ownK H1 a ++ [AObj.cells (ints ds ++ [[iv x.r.id]]) 2]) (.msl o 0 m) (idsL S.drop.L) := by
    rw [d1]
    show OrdAt _ _ (idsL S.L.dropLast)
    rw [hLs]; exact .row hv3 (by omega) h0
  have q2 : MapIs (delM x.r.id w'.kr) (recF S.drop.L) := h.rep.mr.del _ fun y => by
    rw [d1]
    show recF S.L.dropLast y = _
    unfold recF; rw [findH_last y S.L.dropLast hnd2, ← hs]
    split <;> rfl
  have q3 : MapIs (delM x.r.id w'.ks) (smF S.drop.L) := h.rep.ms.del _ fun y => by
    rw [d1]
    show smF S.L.dropLast y = _
    unfold smF; rw [findH_last y S.L.dropLast hnd2, ← hs]
    split <;> rfl
  have q4 : MapIs (delM x.r.id w'.kt) (stF S.drop.L) := h.rep.mt.del _ fun y => by
    rw [d1]
    show stF S.L.dropLast y = _
    unfold stF; rw [findH_last y S.L.dropLast hnd2, ← hs]
    split <;> rfl
  have hl3 : S.drop.L.length = m := by rw [d1]; exact hm2.symm
  refine hq _ _ _ (.msl H1.length 0 ((ints ds).length + 1)) ?_ ?_ ⟨Rep.mk (S := S.drop) R3 (by rw [d1]; exact h.rep.cap) (by rw [d1]; show w'.used - x.bytes = S.used - x.bytes; rw [h.rep.used]) (by rw [d1]; exact h.rep.time) q1 q2 q3 q4, hg.dropG hx, ?_, h.lo, ?_, ?_, ?_, ?_, h.ge⟩
  · (first | (focus (simp only [go_sem, ↓reduceIte, simprocAttr, t2]; first | done | rfl)) | rfl)
  · (first | (focus (simp only [go_sem, ↓reduceIte, simprocAttr]; first | done | rfl)) | rfl)
  · show AV.msl o 0 m = _; rw [hl3]
  · rw [d2, ← ints_app]
    exact hO2.next hFr2.len [iv x.r.id] rfl rfl
  · exact (hFr2.ownA hO2).app _
  · intro k e
    injection e with e
    omega
  · rw [hl3, List.length_append, List.length_singleton]; omega

end Go.Proofs.Ytlhchnnfgppneaa.Ab
