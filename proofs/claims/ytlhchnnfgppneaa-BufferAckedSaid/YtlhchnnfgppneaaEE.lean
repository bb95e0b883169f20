/- Inboxes: Acks. -/
import Derived.Test.YtlhchnnfgppneaaED
import Derived.Test.YtlhchnnfgppneaaQ6
namespace Go.Proofs.Ytlhchnnfgppneaa.Ab
open Go Go.RowKit Go.Proofs
set_option linter.unusedSimpArgs false
set_option linter.unusedVariables false
attribute [local irreducible] Awp wpO thenQ blockQ bodyQ ACalls stepA

/-- one more record is acknowledged -/
def ackStep (l : List (Int × Int)) (id : Int) : List (Int × Int) := match l.getLast? with
  | some p => if p.2 + 1 = id then l.dropLast ++ [(p.1, id)] else l ++ [(id, id)]
  | none => l ++ [(id, id)]
def ackT (R : List Item) (i : Nat) : List (Int × Int) := ((idsR R).take i).foldl ackStep []
def ackL (R : List Item) : List (Int × Int) := ackT R R.length
theorem ackT_succ {R : List Item} {i : Nat} {r : Item} (h : R[i]? = some r) : ackT R (i + 1) = ackStep (ackT R i) r.id := by
  unfold ackT
  have : (idsR R)[i]? = some r.id := by unfold idsR; rw [List.getElem?_map, h]; rfl
  rw [List.take_add_one, this]
  simp [List.foldl_append]
theorem sps_two (l : List (Int × Int)) : ∀ e ∈ sps l, e.length = 2 := by intro e he; obtain ⟨r, _, rfl⟩ := List.mem_map.1 he; rfl
theorem sps_plain (l : List (Int × Int)) : Plain (sps l) := by
  intro e he a ha
  obtain ⟨r, _, rfl⟩ := List.mem_map.1 he
  simp only [List.mem_cons, List.not_mem_nil, or_false] at ha
  rcases ha with rfl | rfl <;> exact ⟨_, rfl⟩
theorem ackStep_len (l : List (Int × Int)) (x : Int) : (ackStep l x).length ≤ l.length + 1 := by
  unfold ackStep
  split
  · split <;> simp
  · simp
theorem ackT_len (R : List Item) : ∀ i, (ackT R i).length ≤ i := by
  intro i
  induction i with
  | zero => simp [ackT]
  | succ i ih =>
    cases h : R[i]? with
    | some r => rw [ackT_succ h]; have := ackStep_len (ackT R i) r.id; omega
    | none =>
      have hle : R.length ≤ i := List.getElem?_eq_none_iff.1 h
      have e : ackT R (i + 1) = ackT R i := by
        unfold ackT
        rw [List.take_of_length_le (by simp [idsR]; omega), List.take_of_length_le (by simp [idsR]; omega)]
      rw [e]; omega

theorem ackStep_app (l0 : List (Int × Int)) (p : Int × Int) (x : Int) : ackStep (l0 ++ [p]) x = if p.2 + 1 = x then l0 ++ [(p.1, x)] else l0 ++ [p] ++ [(x, x)] := by
  unfold ackStep
  simp
theorem ackT_in (R : List Item) : ∀ i, ∀ p ∈ ackT R i, p.1 ∈ idsR R ∧ p.2 ∈ idsR R := by
  intro i
  induction i with
  | zero => simp [ackT]
  | succ i ih =>
    cases h : R[i]? with
    | some r =>
      rw [ackT_succ h]
      have hr : r.id ∈ idsR R := List.mem_map.2 ⟨r, List.mem_of_getElem? h, rfl⟩
      intro p hp
      rcases List.eq_nil_or_concat (ackT R i) with e | ⟨l0, q, e⟩
      · rw [e] at hp
        simp [ackStep] at hp
        subst hp; exact ⟨hr, hr⟩
      · rw [List.concat_eq_append] at e
        rw [e, ackStep_app] at hp
        rw [e] at ih
        have hq := ih q (by simp)
        split at hp
        · rcases List.mem_append.1 hp with hp | hp
          · exact ih p (by simp [hp])
          · simp at hp; subst hp; exact ⟨hq.1, hr⟩
        · rcases List.mem_append.1 hp with hp | hp
          · exact ih p hp
          · simp at hp; subst hp; exact ⟨hr, hr⟩
    | none =>
      have hle : R.length ≤ i := List.getElem?_eq_none_iff.1 h
      have e : ackT R (i + 1) = ackT R i := by
        unfold ackT
        rw [List.take_of_length_le (by simp [idsR]; omega), List.take_of_length_le (by simp [idsR]; omega)]
      rw [e]; exact ih

/-- a row of spans of one's own -/
inductive OutS (lo : Nat) (H : Hp) : AV → List (Int × Int) → Prop
  | nil : OutS lo H nilS []
  | row {b : Nat} {v : List (Int × Int)} (hne : v ≠ []) (hlo : lo ≤ b) (hb : H[b]? = some (.cells (sps v) 70)) : OutS lo H (.msl b 0 v.length) v
theorem OutS.own {lo : Nat} {H : Hp} {a : AV} {v : List (Int × Int)} (h : OutS lo H a v) : Own lo 70 H a (sps v) := by
  cases h with
  | nil => exact .nil
  | row hne hlo hb =>
    have := Own.row (lo := lo) (t := 70) (H := H) (es := sps v) (by intro e; exact hne (List.eq_nil_of_length_eq_zero (by rw [← sps_len v, e]; rfl))) hlo hb
    rw [sps_len] at this
    exact this
theorem OutS.grow {lo : Nat} {H H' : Hp} {a : AV} {v : List (Int × Int)} (h : OutS lo H a v) (hG : Grow H H') : OutS lo H' a v := by
  cases h with
  | nil => exact .nil
  | row hne hlo hb => exact .row hne hlo (hG.get hb)
theorem OutS.next {lo : Nat} {K : Hp} {a : AV} {v : List (Int × Int)} (_ : OutS lo K a v) (hl : lo ≤ K.length) (x : Int × Int) {n m : Nat} (hn : n = K.length) (hm : m = v.length + 1) : OutS lo (ownK K a ++ [.cells (sps v ++ [[iv x.1, iv x.2]]) 70]) (.msl n 0 m) (v ++ [x]) := by
  subst hn hm
  have e : sps v ++ [[iv x.1, iv x.2]] = sps (v ++ [x]) := by simp [sps]
  have e2 : v.length + 1 = (v ++ [x]).length := by simp
  rw [e, e2]
  refine .row (by simp) hl ?_
  have := get_new (ownK K a) (.cells (sps (v ++ [x])) 70)
  rw [ownK_len] at this
  exact this

set_option maxRecDepth 8000 in
set_option maxHeartbeats 4000000 in
theorem acksX {H : Hp} {m : Nat} {R : List Item} (hX : Ibx H m R) (hl : R.length ≤ 300) : CallsTo Try.prog 42 [.rptr [.mp m] 0] H (.rsl (sps (ackL R)) false) H := by
  have hrec := recordsX hX hl
  have hvl := its_len R
  have hlm : R.length ≤ maxLen := by simp only [maxLen]; omega
  refine ACalls.of_body Try.func42 rfl (by kernel_rfl) (by rw [Try.ntmps42]; simp) ?_; rw [Try.ntmps42]
  repeat' (first | refine spD (fun _ => ?_) (fun _ => ?_) | refine spF (fun _ => ?_) (fun _ => ?_) | (apply gT; (exact rfl)) | (apply off; (exact rfl); (exact rfl)) | (apply condT; (exact rfl)) | (apply condF; (exact rfl)) | ((first | (apply stp0; (exact rfl); (exact rfl)) | (apply stpN0; (exact rfl)) | apply gT | apply condT | ((first | apply bodyQ_d0 | apply bodyQ_d1 | apply bodyQ_d2 | apply bodyQ_d3 | apply bodyQ_d4); (exact .inr rfl); (rw [Try.results42]))); (first | (focus (simp only [go_sem, ↓reduceIte, simprocAttr, hvl] <;> rfl)) | exact rfl); (first | (fail_if_success (show okD _ _ _ _ _ _ _ _ _)) | (first | exact okT | exact okN | exact okE rfl)); (first | (fail_if_success (show Bel _ _)) | (focus first | exact .val _ | (simp [oneOf, Bel_iff_tup, Bel_iff_agg, Bel_iff_rsl, Bel_iff_fn, Bel_iff_rptr, Bel_val]; done)))) | (apply calTo0; (exact rfl); (iterate 2 (simp only [go_sem, ↓reduceIte, simprocAttr, hvl]; rfl)); (first | exact hrec); (first | exact okT | exact okN | exact okE rfl)) | refine thenQ_n ?_ | refine thenQ_r ?_ | refine thenQ_e ?_ | refine blockQ_n ?_ | refine blockQ_r ?_ | refine blockQ_e ?_ | (apply blockQ_o; (exact rfl)) | refine Awp.seq ?_ | refine Awp.skip ?_ | refine Awp.block ?_ | refine reg (fun s => s == 5) ?_ | (apply drwE mixed (fun s => s == 5); (kernel_rfl)) | refine fin ?_ | refine Awp.ret ?_ | refine Awp.exit ?_ | ((first | (apply off; (exact rfl)) | apply condF); (first | (focus (simp only [go_sem, ↓reduceIte, simprocAttr, hvl] <;> rfl)) | exact rfl)))
  all_goals first | contradiction | (exfalso; omega) | skip
  refine Awp.loop (ι := Nat) (fun i T' K => i ≤ R.length ∧ T' 10 = iv i ∧ T' 9 = iv R.length ∧ T' 8 = .rsl (its R) false ∧ Grow H K ∧ ∃ a, T' 3 = a ∧ OutS H.length K a (ackT R i)) (fun i => R.length - i) 0 ?_ ?_
  · refine ⟨Nat.zero_le _, ?_, ?_, ?_, Grow.refl _, nilS, ?_, .nil⟩
    · (first | (focus (simp only [go_sem, ↓reduceIte, simprocAttr]; first | done | rfl)) | rfl)
    · (first | (focus (simp only [go_sem, ↓reduceIte, simprocAttr, hvl]; first | done | rfl)) | rfl)
    · (first | (focus (simp only [go_sem, ↓reduceIte, simprocAttr]; first | done | rfl)) | rfl)
    · (first | (focus (simp only [go_sem, ↓reduceIte, simprocAttr]; first | done | rfl)) | rfl)
  rintro i T K ⟨hi, t10, t9, t8, hG, a, t3, hO⟩
  by_cases hlt : i < R.length
  · obtain ⟨r, hr⟩ := nth hlt
    have hrc := its_at hr
    have hsu := wsucc hlt hlm
    have hrok := hX.ok r (List.mem_of_getElem? hr)
    have hTs := ackT_succ hr
    have hTl := ackT_len R i
    have hlt' := Int.ofNat_lt.2 hlt
    have hGK := hG.app [.cells [[iv r.id, iv r.cls, iv r.made, iv r.size, iv r.pk]] 23]
    have hx0 := get_new K (.cells [[iv r.id, iv r.cls, iv r.made, iv r.size, iv r.pk]] 23)
    have hOK := hO.grow ((Grow.refl K).app [.cells [[iv r.id, iv r.cls, iv r.made, iv r.size, iv r.pk]] 23])
    have hxl : H.length ≤ K.length := hG.len
    obtain ⟨l, hlv⟩ : ∃ l, l = ackT R i := ⟨_, rfl⟩
    rw [← hlv] at hTs hTl hOK
    repeat' ((fail_if_success (apply stopR (id := 5))); (fail_if_success (apply stopS (id := 5))); first | refine spD (fun _ => ?_) (fun _ => ?_) | refine spF (fun _ => ?_) (fun _ => ?_) | (apply gT; (exact rfl)) | (apply off; (exact rfl); (exact rfl)) | (apply condT; (exact rfl)) | (apply condF; (exact rfl)) | ((first | (apply stp0; (exact rfl); (exact rfl)) | (apply stpN0; (exact rfl)) | apply gT | apply condT | ((first | apply bodyQ_d0 | apply bodyQ_d1 | apply bodyQ_d2 | apply bodyQ_d3 | apply bodyQ_d4); (exact .inr rfl); (rw [Try.results42]))); (first | (focus (simp only [go_sem, ↓reduceIte, simprocAttr, hlt', t10, t9, t8, hrc, hvl] <;> rfl)) | exact rfl); (first | (fail_if_success (show okD _ _ _ _ _ _ _ _ _)) | (first | exact okT | exact okN | exact okE rfl)); (first | (fail_if_success (show Bel _ _)) | (focus first | exact .val _ | (simp [oneOf, Bel_iff_tup, Bel_iff_agg, Bel_iff_rsl, Bel_iff_fn, Bel_iff_rptr, Bel_val]; done)))) | refine thenQ_n ?_ | refine thenQ_r ?_ | refine thenQ_e ?_ | refine blockQ_n ?_ | refine blockQ_r ?_ | refine blockQ_e ?_ | (apply blockQ_o; (exact rfl)) | refine Awp.seq ?_ | refine Awp.skip ?_ | refine Awp.block ?_ | refine reg (fun s => s == 5) ?_ | (apply drwE mixed (fun s => s == 5); (kernel_rfl)) | refine fin ?_ | refine Awp.ret ?_ | refine Awp.exit ?_ | ((first | (apply off; (exact rfl)) | apply condF); (first | (focus (simp only [go_sem, ↓reduceIte, simprocAttr, hlt', t10, t9, t8, hrc, hvl] <;> rfl)) | exact rfl)))
    all_goals first | contradiction | (exfalso; omega) | skip
    refine Awp.withT (fun T' => T' 10 = iv i ∧ T' 9 = iv R.length ∧ T' 8 = .rsl (its R) false ∧ T' 3 = a ∧ T' 5 = .mptr K.length 0 0) ⟨by (first | (focus (simp only [go_sem, ↓reduceIte, simprocAttr, t10]; first | done | rfl)) | rfl), by (first | (focus (simp only [go_sem, ↓reduceIte, simprocAttr, t9]; first | done | rfl)) | rfl), by (first | (focus (simp only [go_sem, ↓reduceIte, simprocAttr, t8]; first | done | rfl)) | rfl), by (first | (focus (simp only [go_sem, ↓reduceIte, simprocAttr, t3]; first | done | rfl)) | rfl), by (first | (focus (simp only [go_sem, ↓reduceIte, simprocAttr]; first | done | rfl)) | rfl)⟩ ?_
    clear t10 t9 t8 t3 T hO
    rintro T ⟨t10, t9, t8, t3, t5⟩
    generalize K ++ [AObj.cells [[iv r.id, iv r.cls, iv r.made, iv r.size, iv r.pk]] 23] = J at *
    generalize K.length = x at *
    cases hOK with
    | nil =>
      have e : ackT R (i + 1) = [(r.id, r.id)] := by rw [hTs]; rfl
      have hOR : OwnR H.length 70 2 16 J nilS [] := ⟨.nil, by simp, by simp⟩
      repeat' (first | refine spD (fun _ => ?_) (fun _ => ?_) | refine spF (fun _ => ?_) (fun _ => ?_) | (apply gT; (exact rfl)) | (apply off; (exact rfl); (exact rfl)) | (apply condT; (exact rfl)) | (apply condF; (exact rfl)) | ((first | (apply stp0; (exact rfl); (exact rfl)) | (apply stpN0; (exact rfl)) | apply gT | apply condT | ((first | apply bodyQ_d0 | apply bodyQ_d1 | apply bodyQ_d2 | apply bodyQ_d3 | apply bodyQ_d4); (exact .inr rfl); (rw [Try.results42]))); (first | (focus (simp only [go_sem, ↓reduceIte, simprocAttr, t10, t9, t8, t3, t5, hx0, hsu] <;> rfl)) | exact rfl); (first | (fail_if_success (show okD _ _ _ _ _ _ _ _ _)) | (first | exact okT | exact okN | exact okE rfl)); (first | (fail_if_success (show Bel _ _)) | (focus first | exact .val _ | (simp [oneOf, Bel_iff_tup, Bel_iff_agg, Bel_iff_rsl, Bel_iff_fn, Bel_iff_rptr, Bel_val]; done)))) | (apply stpApp; (exact rfl); (first | exact hOR); (iterate 2 (first | (focus (simp only [go_sem, ↓reduceIte, simprocAttr, t10, t9, t8, t3, t5, hx0, hsu] <;> rfl)) | rfl)); (first | rfl | (simp [AV.isCell]; done)); (first | rfl | (simp; done)); (first | exact ap39 | exact ap44 | exact ap46 | exact ap61 | exact ap63 | exact ap75 | exact ap86 | exact ap101 | exact ap102); (first | exact okT | exact okN | exact okE rfl)) | refine thenQ_n ?_ | refine thenQ_r ?_ | refine thenQ_e ?_ | refine blockQ_n ?_ | refine blockQ_r ?_ | refine blockQ_e ?_ | (apply blockQ_o; (exact rfl)) | refine Awp.seq ?_ | refine Awp.skip ?_ | refine Awp.block ?_ | refine reg (fun s => s == 5) ?_ | (apply drwE mixed (fun s => s == 5); (kernel_rfl)) | refine fin ?_ | refine Awp.ret ?_ | refine Awp.exit ?_ | ((first | (apply off; (exact rfl)) | apply condF); (first | (focus (simp only [go_sem, ↓reduceIte, simprocAttr, t10, t9, t8, t3, t5, hx0, hsu] <;> rfl)) | exact rfl)))
      all_goals first | contradiction | (exfalso; omega) | skip
      refine ⟨i + 1, ⟨hlt, ?_, ?_, ?_, ?_, .msl J.length 0 1, ?_, ?_⟩, Nat.sub_lt_sub_left hlt (Nat.lt_succ_self i)⟩
      · (first | (focus (simp only [go_sem, ↓reduceIte, simprocAttr, hsu]; first | done | rfl)) | rfl)
      · (first | (focus (simp only [go_sem, ↓reduceIte, simprocAttr, t9]; first | done | rfl)) | rfl)
      · (first | (focus (simp only [go_sem, ↓reduceIte, simprocAttr, t8]; first | done | rfl)) | rfl)
      · exact hGK.app _
      · (first | (focus (simp only [go_sem, ↓reduceIte, simprocAttr]; first | done | rfl)) | rfl)
      · rw [e]; exact .row (v := [(r.id, r.id)]) (by simp) hGK.len (get_new _ _)
    | row hne hlo hb =>
      rename_i b
      obtain ⟨l0, p, hlp⟩ : ∃ l0 p, l = l0 ++ [p] := by
        rcases List.eq_nil_or_concat l with h | ⟨l0, p, h⟩
        · exact absurd h hne
        · exact ⟨l0, p, by rw [h, List.concat_eq_append]⟩
      have hpin := ackT_in R i p (by rw [← hlv, hlp]; simp)
      have hp2 : 0 ≤ p.2 ∧ p.2 ≤ 1073741824 := by
        obtain ⟨z, hz, e⟩ := List.mem_map.1 hpin.2
        have := hX.ok z hz
        simp only [Item.ok] at this
        omega
      clear hpin hlv
      subst hlp
      have hll : (l0 ++ [p]).length = l0.length + 1 := by simp
      rw [hll] at t3 hTl
      rw [ackStep_app] at hTs
      have hpc : (sps (l0 ++ [p]))[l0.length]? = some [iv p.1, iv p.2] := by simp [sps]
      have hvs : (sps (l0 ++ [p])).length = l0.length + 1 := by simp [sps]
      have wm : IntKind.i64.wrap (((l0.length + 1 : Nat) : Int) - 1) = (l0.length : Int) := by rw [w64 (by omega) (by omega)]; omega
      have wp : IntKind.i64.wrap (p.2 + 1) = p.2 + 1 := w64 (by omega) (by omega)
      have hm1 : l0.length < l0.length + 1 := Nat.lt_succ_self _
      have hgt : ((l0.length + 1 : Nat) : Int) > 0 := by omega
      by_cases e : p.2 + 1 = r.id
      · rw [if_pos e] at hTs
        have hse : (sps (l0 ++ [p])).set l0.length [iv p.1, iv r.id] = sps (l0 ++ [(p.1, r.id)]) := by simp [sps]
        have hbs := (heldS hb).1 (.cells (sps (l0 ++ [(p.1, r.id)])) 70)
        have wr : IntKind.i64.wrap r.id = r.id := by rw [← e]; exact wp
        repeat' (first | refine spD (fun _ => ?_) (fun _ => ?_) | refine spF (fun _ => ?_) (fun _ => ?_) | (apply gT; (exact rfl)) | (apply off; (exact rfl); (exact rfl)) | (apply condT; (exact rfl)) | (apply condF; (exact rfl)) | ((first | (apply stp0; (exact rfl); (exact rfl)) | (apply stpN0; (exact rfl)) | apply gT | apply condT | ((first | apply bodyQ_d0 | apply bodyQ_d1 | apply bodyQ_d2 | apply bodyQ_d3 | apply bodyQ_d4); (exact .inr rfl); (rw [Try.results42]))); (first | (focus (simp only [go_sem, ↓reduceIte, simprocAttr, t10, t9, t8, t3, t5, hx0, hb, hvs, hpc, wm, wr, hm1, hgt, e, hse, hsu, Nat.zero_add] <;> rfl)) | exact rfl); (first | (fail_if_success (show okD _ _ _ _ _ _ _ _ _)) | (first | exact okT | exact okN | exact okE rfl)); (first | (fail_if_success (show Bel _ _)) | (focus first | exact .val _ | (simp [oneOf, Bel_iff_tup, Bel_iff_agg, Bel_iff_rsl, Bel_iff_fn, Bel_iff_rptr, Bel_val]; done)))) | refine thenQ_n ?_ | refine thenQ_r ?_ | refine thenQ_e ?_ | refine blockQ_n ?_ | refine blockQ_r ?_ | refine blockQ_e ?_ | (apply blockQ_o; (exact rfl)) | refine Awp.seq ?_ | refine Awp.skip ?_ | refine Awp.block ?_ | refine reg (fun s => s == 5) ?_ | (apply drwE mixed (fun s => s == 5); (kernel_rfl)) | refine fin ?_ | refine Awp.ret ?_ | refine Awp.exit ?_ | ((first | (apply off; (exact rfl)) | apply condF); (first | (focus (simp only [go_sem, ↓reduceIte, simprocAttr, t10, t9, t8, t3, t5, hx0, hb, hvs, hpc, wm, wr, hm1, hgt, e, hse, hsu, Nat.zero_add] <;> rfl)) | exact rfl)))
        all_goals first | contradiction | (exfalso; omega) | skip
        refine ⟨i + 1, ⟨hlt, ?_, ?_, ?_, hGK.set hlo _, .msl b 0 (l0.length + 1), ?_, ?_⟩, Nat.sub_lt_sub_left hlt (Nat.lt_succ_self i)⟩
        · (first | (focus (simp only [go_sem, ↓reduceIte, simprocAttr, hsu]; first | done | rfl)) | rfl)
        · (first | (focus (simp only [go_sem, ↓reduceIte, simprocAttr, t9]; first | done | rfl)) | rfl)
        · (first | (focus (simp only [go_sem, ↓reduceIte, simprocAttr, t8]; first | done | rfl)) | rfl)
        · (first | (focus (simp only [go_sem, ↓reduceIte, simprocAttr, t3]; first | done | rfl)) | rfl)
        · rw [hTs]
          have := OutS.row (lo := H.length) (H := J.set b (.cells (sps (l0 ++ [(p.1, r.id)])) 70)) (b := b) (v := l0 ++ [(p.1, r.id)]) (by simp) hlo hbs
          simpa using this
      · rw [if_neg e] at hTs
        have hOS : OutS H.length J (.msl b 0 (l0.length + 1)) (l0 ++ [p]) := by
          have := OutS.row (lo := H.length) hne hlo hb
          rwa [hll] at this
        have hOR : OwnR H.length 70 2 16 J (.msl b 0 (l0.length + 1)) (sps (l0 ++ [p])) := ⟨hOS.own, sps_two _, by rw [hvs]; omega⟩
        repeat' (first | refine spD (fun _ => ?_) (fun _ => ?_) | refine spF (fun _ => ?_) (fun _ => ?_) | (apply gT; (exact rfl)) | (apply off; (exact rfl); (exact rfl)) | (apply condT; (exact rfl)) | (apply condF; (exact rfl)) | ((first | (apply stp0; (exact rfl); (exact rfl)) | (apply stpN0; (exact rfl)) | apply gT | apply condT | ((first | apply bodyQ_d0 | apply bodyQ_d1 | apply bodyQ_d2 | apply bodyQ_d3 | apply bodyQ_d4); (exact .inr rfl); (rw [Try.results42]))); (first | (focus (simp only [go_sem, ↓reduceIte, simprocAttr, t10, t9, t8, t3, t5, hx0, hb, hvs, hpc, wm, wp, hm1, hgt, e, hsu, Nat.zero_add] <;> rfl)) | exact rfl); (first | (fail_if_success (show okD _ _ _ _ _ _ _ _ _)) | (first | exact okT | exact okN | exact okE rfl)); (first | (fail_if_success (show Bel _ _)) | (focus first | exact .val _ | (simp [oneOf, Bel_iff_tup, Bel_iff_agg, Bel_iff_rsl, Bel_iff_fn, Bel_iff_rptr, Bel_val]; done)))) | (apply stpApp; (exact rfl); (first | exact hOR); (iterate 2 (first | (focus (simp only [go_sem, ↓reduceIte, simprocAttr, t10, t9, t8, t3, t5, hx0, hb, hvs, hpc, wm, wp, hm1, hgt, e, hsu, Nat.zero_add] <;> rfl)) | rfl)); (first | rfl | (simp [AV.isCell]; done)); (first | rfl | (simp; done)); (first | exact ap39 | exact ap44 | exact ap46 | exact ap61 | exact ap63 | exact ap75 | exact ap86 | exact ap101 | exact ap102); (first | exact okT | exact okN | exact okE rfl)) | refine thenQ_n ?_ | refine thenQ_r ?_ | refine thenQ_e ?_ | refine blockQ_n ?_ | refine blockQ_r ?_ | refine blockQ_e ?_ | (apply blockQ_o; (exact rfl)) | refine Awp.seq ?_ | refine Awp.skip ?_ | refine Awp.block ?_ | refine reg (fun s => s == 5) ?_ | (apply drwE mixed (fun s => s == 5); (kernel_rfl)) | refine fin ?_ | refine Awp.ret ?_ | refine Awp.exit ?_ | ((first | (apply off; (exact rfl)) | apply condF); (first | (focus (simp only [go_sem, ↓reduceIte, simprocAttr, t10, t9, t8, t3, t5, hx0, hb, hvs, hpc, wm, wp, hm1, hgt, e, hsu, Nat.zero_add] <;> rfl)) | exact rfl)))
        all_goals first | contradiction | (exfalso; omega) | skip
        refine ⟨i + 1, ⟨hlt, ?_, ?_, ?_, (hOS.own.grow (Nat.le_refl _) hGK).app _, .msl J.length 0 (l0.length + 1 + 1), ?_, ?_⟩, Nat.sub_lt_sub_left hlt (Nat.lt_succ_self i)⟩
        · (first | (focus (simp only [go_sem, ↓reduceIte, simprocAttr, hsu]; first | done | rfl)) | rfl)
        · (first | (focus (simp only [go_sem, ↓reduceIte, simprocAttr, t9]; first | done | rfl)) | rfl)
        · (first | (focus (simp only [go_sem, ↓reduceIte, simprocAttr, t8]; first | done | rfl)) | rfl)
        · (first | (focus (simp only [go_sem, ↓reduceIte, simprocAttr, hvs]; first | done | rfl)) | rfl)
        · rw [hTs]; exact hOS.next hGK.len (r.id, r.id) rfl (by rw [hll])
  · have hie : i = R.length := Nat.le_antisymm hi (Nat.not_lt.1 hlt)
    subst hie
    repeat' (first | refine spD (fun _ => ?_) (fun _ => ?_) | refine spF (fun _ => ?_) (fun _ => ?_) | (apply gT; (exact rfl)) | (apply off; (exact rfl); (exact rfl)) | (apply condT; (exact rfl)) | (apply condF; (exact rfl)) | ((first | (apply stp0; (exact rfl); (exact rfl)) | (apply stpN0; (exact rfl)) | apply gT | apply condT); (first | (focus (simp only [go_sem, ↓reduceIte, simprocAttr, Int.lt_irrefl, t10, t9, t3] <;> rfl)) | exact rfl); (first | (fail_if_success (show okD _ _ _ _ _ _ _ _ _)) | (first | exact okT | exact okN | exact okE rfl))) | refine thenQ_n ?_ | refine thenQ_r ?_ | refine thenQ_e ?_ | refine blockQ_n ?_ | refine blockQ_r ?_ | refine blockQ_e ?_ | (apply blockQ_o; (exact rfl)) | refine Awp.seq ?_ | refine Awp.skip ?_ | refine Awp.block ?_ | refine reg (fun s => s == 5) ?_ | (apply drwE mixed (fun s => s == 5); (kernel_rfl)) | refine fin ?_ | refine Awp.ret ?_ | refine Awp.exit ?_ | ((first | (apply off; (exact rfl)) | apply condF); (first | (focus (simp only [go_sem, ↓reduceIte, simprocAttr, Int.lt_irrefl, t10, t9, t3] <;> rfl)) | exact rfl)))
    all_goals first | contradiction | (exfalso; omega) | skip
    exact bodyQ_own (a := a) (t := 70) (.inr rfl) (by rw [Try.results42]; simp only [go_sem, ↓reduceIte, simprocAttr, t3]) hG hO.own (sps_plain _)

end Go.Proofs.Ytlhchnnfgppneaa.Ab
