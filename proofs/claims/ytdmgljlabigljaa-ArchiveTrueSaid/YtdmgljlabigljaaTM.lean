/- Archive: the entries in order. -/
import Derived.Test.YtdmgljlabigljaaTL
import Derived.Test.YtdmgljlabigljaaTI
namespace Go.Proofs.Ytdmgljlabigljaa.Ab
open Go Go.RowKit Go.Proofs
set_option linter.unusedSimpArgs false
set_option linter.unusedVariables false
attribute [local irreducible] Awp wpO thenQ blockQ bodyQ ACalls stepA

theorem perm_range {n : Nat} {seen : List Nat} (hn : seen.Nodup) (hlt : ∀ i ∈ seen, i < n) (hall : ∀ j, j < n → j ∈ seen) : seen.Perm (List.range n) := by
  refine (List.perm_ext_iff_of_nodup hn List.nodup_range).2 fun a => ?_
  rw [List.mem_range]
  exact ⟨hlt a, hall a⟩
theorem range_keys {α : Type} (T : List α) : (List.range T.length).filterMap (fun i => T[i]?) = T := by
  induction T with
  | nil => rfl
  | cons a T ih =>
    rw [List.length_cons, List.range_succ_eq_map, List.filterMap_cons]
    simp only [List.getElem?_cons_zero]
    rw [List.filterMap_map]
    congr 1
/-- the keys that have been handed out -/
def seenK (T : List (K3 × Ent)) (seen : List Nat) : List K3 := (seen.filterMap fun i => T[i]?).map Prod.fst
theorem seenK_all {T : List (K3 × Ent)} {seen : List Nat} (hn : seen.Nodup) (hlt : ∀ i ∈ seen, i < T.length) (hall : ∀ j, j < T.length → j ∈ seen) : (seenK T seen).Perm (T.map Prod.fst) := by
  unfold seenK
  refine List.Perm.map _ ?_
  have := (perm_range hn hlt hall).filterMap (fun i => T[i]?)
  rwa [range_keys] at this
theorem seenK_app {T : List (K3 × Ent)} {seen : List Nat} {j : Nat} {p : K3 × Ent} (h : T[j]? = some p) : seenK T (seen ++ [j]) = seenK T seen ++ [p.1] := by
  unfold seenK
  rw [List.filterMap_append, List.map_append]
  simp [h]
theorem seen_len {n : Nat} {seen : List Nat} (hn : seen.Nodup) (hlt : ∀ i ∈ seen, i < n) : seen.length ≤ n := by
  exact nodup_le _ seen hn hlt
/-- sorted keys are the keys in order -/
theorem sorted_uniq : ∀ {a b : List K3}, a.Perm b → a.Pairwise ltK → b.Pairwise ltK → a = b
  | [], b, h, _, _ => by have := h.length_eq; simp at this; exact (List.eq_nil_of_length_eq_zero this.symm).symm
  | x :: a, [], h, _, _ => by have := h.length_eq; simp at this
  | x :: a, y :: b, h, h1, h2 => by
    have c1 := List.pairwise_cons.1 h1
    have c2 := List.pairwise_cons.1 h2
    have e : x = y := by
      refine Classical.byContradiction fun hne => ?_
      have hx : x ∈ y :: b := h.mem_iff.1 (by simp)
      have hy : y ∈ x :: a := h.mem_iff.2 (by simp)
      rcases List.mem_cons.1 hx with hx | hx
      · exact hne hx
      rcases List.mem_cons.1 hy with hy | hy
      · exact hne hy.symm
      exact ltK_irr x (ltK_tr (c1.1 y hy) (c2.1 x hx))
    subst e
    rw [sorted_uniq ((List.perm_cons x).1 h) c1.2 c2.2]
theorem Arc.nodup {H : Hp} {p b : Nat} {S : List Ser} {L : List Ent} (h : Arc H p b S L) : (L.map Ent.key).Nodup := by
  rw [List.nodup_iff_pairwise_ne, List.pairwise_map]
  exact h.srt.imp fun h e => by rw [e] at h; exact ltK_irr _ h

set_option maxRecDepth 8000 in
set_option maxHeartbeats 8000000 in
theorem order1 {H : Hp} {p b : Nat} {S : List Ser} {L : List Ent} {bk : Nat} {Q : Exit → Env → Hp → Prop} (hA : Arc H p b S L) (hlen : L.length ≤ 1024)
    (hQ : ∀ T K, T 0 = .fn (.yield bk) [] → T 1 = .rptr [.mptr p 0 0] 0 → T 3 = .rsl (k3s (L.map Ent.key)) false → Grow H K → Awp Try.prog 38 none (tlD (tlD (tlD (Try.f34.body.getD .skip)))) T K Q) :
    Awp Try.prog 38 none (Try.f34.body.getD .skip) (env0 [.fn (.yield bk) [], .rptr [.mptr p 0 0] 0]) H Q := by
  obtain ⟨T0, hb, hT⟩ := hA.tab
  have hp := hA.hp
  have hne : b ≠ p := fun e => by rw [e, hp] at hb; cases hb
  have hbl := (List.getElem?_eq_some_iff.1 hb).1
  have hpl := (List.getElem?_eq_some_iff.1 hp).1
  unfold Try.f34 at hQ ⊢
  simp only [tlD, Option.getD_some] at hQ ⊢
  repeat' (first | refine spD (fun _ => ?_) (fun _ => ?_) | refine spF (fun _ => ?_) (fun _ => ?_) | (apply gT; (exact rfl)) | (apply off; (exact rfl); (exact rfl)) | (apply condT; (exact rfl)) | (apply condF; (exact rfl)) | ((first | (apply stp0; (exact rfl); (exact rfl)) | (apply stpN0; (exact rfl)) | apply gT | apply condT | ((first | apply bodyQ_d0 | apply bodyQ_d1 | apply bodyQ_d2 | apply bodyQ_d3 | apply bodyQ_d4); (exact .inr rfl); (rw [Try.results34]))); (first | (focus (simp only [go_sem, ↓reduceIte, simprocAttr, hp] <;> rfl)) | exact rfl); (first | (fail_if_success (show okD _ _ _ _ _ _ _ _ _)) | (first | exact okT | exact okN | exact okE rfl)); (first | (fail_if_success (show Bel _ _)) | (focus first | exact .val _ | (simp [oneOf, Bel_iff_tup, Bel_iff_agg, Bel_iff_rsl, Bel_iff_fn, Bel_iff_rptr, Bel_val]; done)))) | refine thenQ_n ?_ | refine thenQ_r ?_ | refine thenQ_e ?_ | refine blockQ_n ?_ | refine blockQ_r ?_ | refine blockQ_e ?_ | (apply blockQ_o; (exact rfl)) | refine Awp.seq ?_ | refine Awp.skip ?_ | refine Awp.block ?_ | refine reg (fun s => s == 4 || s == 6) ?_ | (apply drwE mixed (fun s => s == 4 || s == 6); (kernel_rfl)) | refine fin ?_ | refine Awp.ret ?_ | refine Awp.exit ?_ | ((first | (apply off; (exact rfl)) | apply condF); (first | (focus (simp only [go_sem, ↓reduceIte, simprocAttr, hp] <;> rfl)) | exact rfl)))
  all_goals first | contradiction | skip
  refine stpOp rfl rfl (OpOK.rangeM (b := b) (es := tabA k3A Ent.av T0) Try.underlying56 (by (first | (focus (simp only [go_sem, ↓reduceIte, simprocAttr]; first | done | rfl)) | rfl)) hb) ?_
  rintro v1 H1 ⟨rfl, ss, c, hss, hnd, rfl⟩
  repeat' ((fail_if_success (apply stopR (id := 2))); (fail_if_success (apply stopS (id := 2))); first | refine spD (fun _ => ?_) (fun _ => ?_) | refine spF (fun _ => ?_) (fun _ => ?_) | (apply gT; (exact rfl)) | (apply off; (exact rfl); (exact rfl)) | (apply condT; (exact rfl)) | (apply condF; (exact rfl)) | ((first | (apply stp0; (exact rfl); (exact rfl)) | (apply stpN0; (exact rfl)) | apply gT | apply condT | ((first | apply bodyQ_d0 | apply bodyQ_d1 | apply bodyQ_d2 | apply bodyQ_d3 | apply bodyQ_d4); (exact .inr rfl); (rw [Try.results34]))); (first | (focus (simp only [go_sem, ↓reduceIte, simprocAttr] <;> rfl)) | exact rfl); (first | (fail_if_success (show okD _ _ _ _ _ _ _ _ _)) | (first | exact okT | exact okN | exact okE rfl)); (first | (fail_if_success (show Bel _ _)) | (focus first | exact .val _ | (simp [oneOf, Bel_iff_tup, Bel_iff_agg, Bel_iff_rsl, Bel_iff_fn, Bel_iff_rptr, Bel_val]; done)))) | refine thenQ_n ?_ | refine thenQ_r ?_ | refine thenQ_e ?_ | refine blockQ_n ?_ | refine blockQ_r ?_ | refine blockQ_e ?_ | (apply blockQ_o; (exact rfl)) | refine Awp.seq ?_ | refine Awp.skip ?_ | refine Awp.block ?_ | refine reg (fun s => s == 4 || s == 6) ?_ | (apply drwE mixed (fun s => s == 4 || s == 6); (kernel_rfl)) | refine fin ?_ | refine Awp.ret ?_ | refine Awp.exit ?_ | ((first | (apply off; (exact rfl)) | apply condF); (first | (focus (simp only [go_sem, ↓reduceIte, simprocAttr] <;> rfl)) | exact rfl)))
  all_goals first | contradiction | skip
  refine Awp.loop (ι := List Nat) (fun seen T' K => seen.Nodup ∧ (∀ i ∈ seen, i < T0.length) ∧ (T' 0 = .fn (.yield bk) [] ∧ T' 1 = .rptr [.mptr p 0 0] 0 ∧ T' 11 = .mptr H.length 0 0) ∧ H.length < K.length ∧ (∀ j, j < H.length → j ≠ b → K[j]? = H[j]?) ∧
        K[b]? = some (.amapC (tabA k3A Ent.av T0) ss c) ∧ K[H.length]? = some (.miter b ss c seen) ∧ Own (H.length + 1) 77 K (T' 3) (k3s (seenK T0 seen)) ∧ ∀ es ex, T' 3 ≠ .rsl es ex) (fun seen => T0.length - seen.length) [] ?_ ?_
  · refine ⟨List.nodup_nil, by simp, ⟨by (first | (focus (simp only [go_sem, ↓reduceIte, simprocAttr]; first | done | rfl)) | rfl), by (first | (focus (simp only [go_sem, ↓reduceIte, simprocAttr]; first | done | rfl)) | rfl), by (first | (focus (simp only [go_sem, ↓reduceIte, simprocAttr, List.length_set]; first | done | rfl)) | rfl)⟩, by simp, fun j hj hjb => ?_, ?_, ?_, ?_, fun es ex h => by cases h⟩
    · rw [List.getElem?_append_left (by rw [List.length_set]; exact hj), List.getElem?_set_ne (Ne.symm hjb)]
    · exact (heldS hb).2.1 _ _
    · have := get_new (H.set b (.amapC (tabA k3A Ent.av T0) ss c)) (.miter b ss c [])
      rw [List.length_set] at this; exact this
    · exact .nil
  rintro seen T K ⟨hsn, hsl, ⟨t0, t1, t11⟩, hKl, hKo, hKb, hKr, hO, hnr⟩
  have hsle := seen_len hsn hsl
  have htl : (tabA k3A Ent.av T0).length = T0.length := by unfold tabA; simp
  generalize ha : T 3 = a at *
  refine Awp.seq ?_
  refine reg (fun s => s == 4 || s == 6) ?_
  refine stpOp rfl rfl (OpOK.nextM (r := H.length) (b := b) hnd (by (first | (focus (simp only [go_sem, ↓reduceIte, simprocAttr, t11]; first | done | rfl)) | rfl)) hKr hKb) ?_
  rintro v1 K1 (⟨rfl, rfl, hall⟩ | ⟨j, e, he, hj, rfl, rfl⟩)
  · have hperm := seenK_all hsn hsl (by rw [← htl]; exact hall)
    have hperm2 : (seenK T0 seen).Perm (L.map Ent.key) := by
      refine hperm.trans ?_
      have := hT.map Prod.fst
      unfold tabE at this
      rw [List.map_map] at this
      exact this
    generalize seenK T0 seen = ks at *
    repeat' ((fail_if_success (apply stopR (id := 5))); (fail_if_success (apply stopS (id := 5))); first | refine spD (fun _ => ?_) (fun _ => ?_) | refine spF (fun _ => ?_) (fun _ => ?_) | (apply gT; (exact rfl)) | (apply off; (exact rfl); (exact rfl)) | (apply condT; (exact rfl)) | (apply condF; (exact rfl)) | ((first | (apply stp0; (exact rfl); (exact rfl)) | (apply stpN0; (exact rfl)) | apply gT | apply condT | ((first | apply bodyQ_d0 | apply bodyQ_d1 | apply bodyQ_d2 | apply bodyQ_d3 | apply bodyQ_d4); (exact .inr rfl); (rw [Try.results34]))); (first | (focus (simp only [go_sem, ↓reduceIte, simprocAttr] <;> rfl)) | exact rfl); (first | (fail_if_success (show okD _ _ _ _ _ _ _ _ _)) | (first | exact okT | exact okN | exact okE rfl)); (first | (fail_if_success (show Bel _ _)) | (focus first | exact .val _ | (simp [oneOf, Bel_iff_tup, Bel_iff_agg, Bel_iff_rsl, Bel_iff_fn, Bel_iff_rptr, Bel_val]; done)))) | refine thenQ_n ?_ | refine thenQ_r ?_ | refine thenQ_e ?_ | refine blockQ_n ?_ | refine blockQ_r ?_ | refine blockQ_e ?_ | (apply blockQ_o; (exact rfl)) | refine Awp.seq ?_ | refine Awp.skip ?_ | refine Awp.block ?_ | refine reg (fun s => s == 4 || s == 6) ?_ | (apply drwE mixed (fun s => s == 4 || s == 6); (kernel_rfl)) | refine fin ?_ | refine Awp.ret ?_ | refine Awp.exit ?_ | ((first | (apply off; (exact rfl)) | apply condF); (first | (focus (simp only [go_sem, ↓reduceIte, simprocAttr] <;> rfl)) | exact rfl)))
    all_goals first | contradiction | skip
    refine Awp.withT (fun T' => T' 0 = .fn (.yield bk) [] ∧ T' 1 = .rptr [.mptr p 0 0] 0 ∧ T' 3 = a) ⟨by (first | (focus (simp only [go_sem, ↓reduceIte, simprocAttr, t0]; first | done | rfl)) | rfl), by (first | (focus (simp only [go_sem, ↓reduceIte, simprocAttr, t1]; first | done | rfl)) | rfl), by (first | (focus (simp only [go_sem, ↓reduceIte, simprocAttr, ha]; first | done | rfl)) | rfl)⟩ ?_
    clear t0 t1 t11 ha T
    rintro T ⟨t0, t1, t3⟩
    refine Awp.unC hKb ?_
    have hG : Grow H (K1.set b (.amap (tabA k3A Ent.av T0))) := by
      refine ⟨by rw [List.length_set]; omega, fun j hj => ?_⟩
      by_cases hjb : j = b
      · subst hjb; rw [(heldS hKb).1, hb]
      · rw [List.getElem?_set_ne (Ne.symm hjb)]; exact hKo j hj hjb
    have hO2 := (hO.setLow (s := b) (by omega) (.amap (tabA k3A Ent.av T0))).low (lo' := H.length) (by omega)
    generalize K1.set b (.amap (tabA k3A Ent.av T0)) = K at *
    clear hKb hKo hKr hKl hO K1 hall
    have hkl : ks.length ≤ 4096 := by rw [hperm2.length_eq, List.length_map]; omega
    have hks0 := k3s_len ks
    have hsrt : (L.map Ent.key).Pairwise ltK := by rw [List.pairwise_map]; exact hA.srt
    have hnd2 : ks.Nodup := hperm2.nodup_iff.2 hA.nodup
    generalize hes : k3s ks = es at *
    cases hO2 with
    | fix => exact absurd rfl (hnr _ _)
    | nil =>
      have hk0 : ks = [] := List.eq_nil_of_length_eq_zero (by rw [← hks0]; rfl)
      have hL0 : L.map Ent.key = [] := List.eq_nil_of_length_eq_zero (by rw [← hperm2.length_eq, hk0]; rfl)
      repeat' (first | refine spD (fun _ => ?_) (fun _ => ?_) | refine spF (fun _ => ?_) (fun _ => ?_) | (apply gT; (exact rfl)) | (apply off; (exact rfl); (exact rfl)) | (apply condT; (exact rfl)) | (apply condF; (exact rfl)) | ((first | (apply stp0; (exact rfl); (exact rfl)) | (apply stpN0; (exact rfl)) | apply gT | apply condT | ((first | apply bodyQ_d0 | apply bodyQ_d1 | apply bodyQ_d2 | apply bodyQ_d3 | apply bodyQ_d4); (exact .inr rfl); (rw [Try.results34]))); (first | (focus (simp only [go_sem, ↓reduceIte, simprocAttr, t3] <;> rfl)) | exact rfl); (first | (fail_if_success (show okD _ _ _ _ _ _ _ _ _)) | (first | exact okT | exact okN | exact okE rfl)); (first | (fail_if_success (show Bel _ _)) | (focus first | exact .val _ | (simp [oneOf, Bel_iff_tup, Bel_iff_agg, Bel_iff_rsl, Bel_iff_fn, Bel_iff_rptr, Bel_val]; done)))) | refine thenQ_n ?_ | refine thenQ_r ?_ | refine thenQ_e ?_ | refine blockQ_n ?_ | refine blockQ_r ?_ | refine blockQ_e ?_ | (apply blockQ_o; (exact rfl)) | refine Awp.seq ?_ | refine Awp.skip ?_ | refine Awp.block ?_ | refine reg (fun s => s == 4 || s == 6) ?_ | (apply drwE mixed (fun s => s == 4 || s == 6); (kernel_rfl)) | refine fin ?_ | refine Awp.ret ?_ | refine Awp.exit ?_ | ((first | (apply off; (exact rfl)) | apply condF); (first | (focus (simp only [go_sem, ↓reduceIte, simprocAttr, t3] <;> rfl)) | exact rfl)))
      all_goals first | contradiction | skip
      refine cal rfl rfl rfl ?_ (show ACallV Try.prog (.fn (.func 35) []) [nilS, .fn (.func 36) []] K _ from sortNil_ok K) ?_
      · (first | (focus (simp only [go_sem, ↓reduceIte, simprocAttr, t3]; first | done | rfl)) | rfl)
      rintro v1 K2 ⟨rfl, rfl⟩
      repeat' ((fail_if_success (apply stopR (id := 6))); (fail_if_success (apply stopS (id := 6))); first | refine spD (fun _ => ?_) (fun _ => ?_) | refine spF (fun _ => ?_) (fun _ => ?_) | (apply gT; (exact rfl)) | (apply off; (exact rfl); (exact rfl)) | (apply condT; (exact rfl)) | (apply condF; (exact rfl)) | ((first | (apply stp0; (exact rfl); (exact rfl)) | (apply stpN0; (exact rfl)) | apply gT | apply condT | ((first | apply bodyQ_d0 | apply bodyQ_d1 | apply bodyQ_d2 | apply bodyQ_d3 | apply bodyQ_d4); (exact .inr rfl); (rw [Try.results34]))); (first | (focus (simp only [go_sem, ↓reduceIte, simprocAttr] <;> rfl)) | exact rfl); (first | (fail_if_success (show okD _ _ _ _ _ _ _ _ _)) | (first | exact okT | exact okN | exact okE rfl)); (first | (fail_if_success (show Bel _ _)) | (focus first | exact .val _ | (simp [oneOf, Bel_iff_tup, Bel_iff_agg, Bel_iff_rsl, Bel_iff_fn, Bel_iff_rptr, Bel_val]; done)))) | refine thenQ_n ?_ | refine thenQ_r ?_ | refine thenQ_e ?_ | refine blockQ_n ?_ | refine blockQ_r ?_ | refine blockQ_e ?_ | (apply blockQ_o; (exact rfl)) | refine Awp.seq ?_ | refine Awp.skip ?_ | refine Awp.block ?_ | refine reg (fun s => s == 4 || s == 6) ?_ | (apply drwE mixed (fun s => s == 4 || s == 6); (kernel_rfl)) | refine fin ?_ | refine Awp.ret ?_ | refine Awp.exit ?_ | ((first | (apply off; (exact rfl)) | apply condF); (first | (focus (simp only [go_sem, ↓reduceIte, simprocAttr] <;> rfl)) | exact rfl)))
      all_goals first | contradiction | skip
      refine Awp.frzOwn (lo := 0) (t := 77) 3 (.nil) (by (first | (focus (simp only [go_sem, ↓reduceIte, simprocAttr, t3]; first | done | rfl)) | rfl)) ?_
      refine hQ _ _ ?_ ?_ ?_ hG
      · (first | (focus (simp only [go_sem, ↓reduceIte, simprocAttr, t0]; first | done | rfl)) | rfl)
      · (first | (focus (simp only [go_sem, ↓reduceIte, simprocAttr, t1]; first | done | rfl)) | rfl)
      · rw [hL0]; rfl
    | row hne2 hlo hrow =>
      rename_i o
      have hpos : 0 < ks.length := by
        rcases Nat.eq_zero_or_pos ks.length with h | h
        · exact absurd (List.eq_nil_of_length_eq_zero (by rw [hks0, h])) hne2
        · exact h
      rw [← hes] at hrow
      rw [hks0] at t3
      have hS := sort35_ok K ks hpos hkl hrow hnd2
      repeat' (first | refine spD (fun _ => ?_) (fun _ => ?_) | refine spF (fun _ => ?_) (fun _ => ?_) | (apply gT; (exact rfl)) | (apply off; (exact rfl); (exact rfl)) | (apply condT; (exact rfl)) | (apply condF; (exact rfl)) | ((first | (apply stp0; (exact rfl); (exact rfl)) | (apply stpN0; (exact rfl)) | apply gT | apply condT | ((first | apply bodyQ_d0 | apply bodyQ_d1 | apply bodyQ_d2 | apply bodyQ_d3 | apply bodyQ_d4); (exact .inr rfl); (rw [Try.results34]))); (first | (focus (simp only [go_sem, ↓reduceIte, simprocAttr, t3] <;> rfl)) | exact rfl); (first | (fail_if_success (show okD _ _ _ _ _ _ _ _ _)) | (first | exact okT | exact okN | exact okE rfl)); (first | (fail_if_success (show Bel _ _)) | (focus first | exact .val _ | (simp [oneOf, Bel_iff_tup, Bel_iff_agg, Bel_iff_rsl, Bel_iff_fn, Bel_iff_rptr, Bel_val]; done)))) | refine thenQ_n ?_ | refine thenQ_r ?_ | refine thenQ_e ?_ | refine blockQ_n ?_ | refine blockQ_r ?_ | refine blockQ_e ?_ | (apply blockQ_o; (exact rfl)) | refine Awp.seq ?_ | refine Awp.skip ?_ | refine Awp.block ?_ | refine reg (fun s => s == 4 || s == 6) ?_ | (apply drwE mixed (fun s => s == 4 || s == 6); (kernel_rfl)) | refine fin ?_ | refine Awp.ret ?_ | refine Awp.exit ?_ | ((first | (apply off; (exact rfl)) | apply condF); (first | (focus (simp only [go_sem, ↓reduceIte, simprocAttr, t3] <;> rfl)) | exact rfl)))
      all_goals first | contradiction | skip
      refine cal rfl rfl rfl ?_ (show ACallV Try.prog (.fn (.func 35) []) [.msl o 0 ks.length, .fn (.func 36) []] K _ from hS) ?_
      · (first | (focus (simp only [go_sem, ↓reduceIte, simprocAttr, t3]; first | done | rfl)) | rfl)
      rintro v1 K2 ⟨rfl, ks', hp', hs', rfl⟩
      have e1 : ks' = L.map Ent.key := sorted_uniq (hp'.trans hperm2) hs' hsrt
      subst e1
      have hl' := hp'.length_eq
      repeat' ((fail_if_success (apply stopR (id := 6))); (fail_if_success (apply stopS (id := 6))); first | refine spD (fun _ => ?_) (fun _ => ?_) | refine spF (fun _ => ?_) (fun _ => ?_) | (apply gT; (exact rfl)) | (apply off; (exact rfl); (exact rfl)) | (apply condT; (exact rfl)) | (apply condF; (exact rfl)) | ((first | (apply stp0; (exact rfl); (exact rfl)) | (apply stpN0; (exact rfl)) | apply gT | apply condT | ((first | apply bodyQ_d0 | apply bodyQ_d1 | apply bodyQ_d2 | apply bodyQ_d3 | apply bodyQ_d4); (exact .inr rfl); (rw [Try.results34]))); (first | (focus (simp only [go_sem, ↓reduceIte, simprocAttr] <;> rfl)) | exact rfl); (first | (fail_if_success (show okD _ _ _ _ _ _ _ _ _)) | (first | exact okT | exact okN | exact okE rfl)); (first | (fail_if_success (show Bel _ _)) | (focus first | exact .val _ | (simp [oneOf, Bel_iff_tup, Bel_iff_agg, Bel_iff_rsl, Bel_iff_fn, Bel_iff_rptr, Bel_val]; done)))) | refine thenQ_n ?_ | refine thenQ_r ?_ | refine thenQ_e ?_ | refine blockQ_n ?_ | refine blockQ_r ?_ | refine blockQ_e ?_ | (apply blockQ_o; (exact rfl)) | refine Awp.seq ?_ | refine Awp.skip ?_ | refine Awp.block ?_ | refine reg (fun s => s == 4 || s == 6) ?_ | (apply drwE mixed (fun s => s == 4 || s == 6); (kernel_rfl)) | refine fin ?_ | refine Awp.ret ?_ | refine Awp.exit ?_ | ((first | (apply off; (exact rfl)) | apply condF); (first | (focus (simp only [go_sem, ↓reduceIte, simprocAttr] <;> rfl)) | exact rfl)))
      all_goals first | contradiction | skip
      have hO3 : Own H.length 77 (K.set o (.cells (k3s (L.map Ent.key)) 77)) (.msl o 0 ks.length) (k3s (L.map Ent.key)) := by
        rw [← hl', ← k3s_len (L.map Ent.key)]
        exact .row (fun h => by have := congrArg List.length h; rw [k3s_len, hl'] at this; rw [this] at hpos; exact absurd hpos (by decide)) hlo ((heldS hrow).1 _)
      refine Awp.frzOwn 3 hO3 (by (first | (focus (simp only [go_sem, ↓reduceIte, simprocAttr, t3]; first | done | rfl)) | rfl)) ?_
      refine hQ _ _ ?_ ?_ ?_ (hO3.grow (Nat.le_refl _) (hG.set hlo _))
      · (first | (focus (simp only [go_sem, ↓reduceIte, simprocAttr, t0]; first | done | rfl)) | rfl)
      · (first | (focus (simp only [go_sem, ↓reduceIte, simprocAttr, t1]; first | done | rfl)) | rfl)
      · rfl
  · obtain ⟨pr, hpr, rfl⟩ : ∃ pr, T0[j]? = some pr ∧ e = (k3A pr.1, pr.2.av) := by
      unfold tabA at he
      rw [List.getElem?_map] at he
      cases hp2 : T0[j]? with
      | none => rw [hp2] at he; cases he
      | some pr => rw [hp2] at he; cases he; exact ⟨pr, rfl, rfl⟩
    have hjl : j < T0.length := (List.getElem?_eq_some_iff.1 hpr).1
    have hbH : b ≠ H.length := by omega
    have hKb1 : (K.set H.length (.miter b ss c (seen ++ [j])))[b]? = some (.amapC (tabA k3A Ent.av T0) ss c) := by rw [List.getElem?_set_ne (Ne.symm hbH)]; exact hKb
    have hKr1 := (heldS hKr).1 (.miter b ss c (seen ++ [j]))
    have hO1 := hO.setLow (s := H.length) (by omega) (.miter b ss c (seen ++ [j]))
    have hKo1 : ∀ i, i < H.length → i ≠ b → (K.set H.length (.miter b ss c (seen ++ [j])))[i]? = H[i]? := fun i hi hib => by rw [List.getElem?_set_ne (by omega)]; exact hKo i hi hib
    have hKl1 : H.length < (K.set H.length (.miter b ss c (seen ++ [j]))).length := by rw [List.length_set]; exact hKl
    generalize K.set H.length (.miter b ss c (seen ++ [j])) = K1 at *
    repeat' ((fail_if_success (apply stopR (id := 3))); (fail_if_success (apply stopS (id := 3))); first | refine spD (fun _ => ?_) (fun _ => ?_) | refine spF (fun _ => ?_) (fun _ => ?_) | (apply gT; (exact rfl)) | (apply off; (exact rfl); (exact rfl)) | (apply condT; (exact rfl)) | (apply condF; (exact rfl)) | ((first | (apply stp0; (exact rfl); (exact rfl)) | (apply stpN0; (exact rfl)) | apply gT | apply condT | ((first | apply bodyQ_d0 | apply bodyQ_d1 | apply bodyQ_d2 | apply bodyQ_d3 | apply bodyQ_d4); (exact .inr rfl); (rw [Try.results34]))); (first | (focus (simp only [go_sem, ↓reduceIte, simprocAttr] <;> rfl)) | exact rfl); (first | (fail_if_success (show okD _ _ _ _ _ _ _ _ _)) | (first | exact okT | exact okN | exact okE rfl)); (first | (fail_if_success (show Bel _ _)) | (focus first | exact .val _ | (simp [oneOf, Bel_iff_tup, Bel_iff_agg, Bel_iff_rsl, Bel_iff_fn, Bel_iff_rptr, Bel_val]; done)))) | refine thenQ_n ?_ | refine thenQ_r ?_ | refine thenQ_e ?_ | refine blockQ_n ?_ | refine blockQ_r ?_ | refine blockQ_e ?_ | (apply blockQ_o; (exact rfl)) | refine Awp.seq ?_ | refine Awp.skip ?_ | refine Awp.block ?_ | refine reg (fun s => s == 4 || s == 6) ?_ | (apply drwE mixed (fun s => s == 4 || s == 6); (kernel_rfl)) | refine fin ?_ | refine Awp.ret ?_ | refine Awp.exit ?_ | ((first | (apply off; (exact rfl)) | apply condF); (first | (focus (simp only [go_sem, ↓reduceIte, simprocAttr] <;> rfl)) | exact rfl)))
    all_goals first | contradiction | skip
    refine Awp.withT (fun T' => T' 0 = .fn (.yield bk) [] ∧ T' 1 = .rptr [.mptr p 0 0] 0 ∧ T' 11 = .mptr H.length 0 0 ∧ T' 3 = a) ⟨by (first | (focus (simp only [go_sem, ↓reduceIte, simprocAttr, t0]; first | done | rfl)) | rfl), by (first | (focus (simp only [go_sem, ↓reduceIte, simprocAttr, t1]; first | done | rfl)) | rfl), by (first | (focus (simp only [go_sem, ↓reduceIte, simprocAttr, t11]; first | done | rfl)) | rfl), by (first | (focus (simp only [go_sem, ↓reduceIte, simprocAttr, ha]; first | done | rfl)) | rfl)⟩ ?_
    clear t0 t1 t11 ha T
    rintro T ⟨t0, t1, t11, t3⟩
    refine Awp.seq ?_
    refine reg (fun s => s == 4 || s == 6) ?_
    refine stpOp rfl rfl (OpOK.entryM (r := H.length) (b := b) (j := j) (e := (k3A pr.1, pr.2.av)) (by (first | (focus (simp only [go_sem, ↓reduceIte, simprocAttr, t11]; first | done | rfl)) | rfl)) hKr1 hKb1 he) ?_
    rintro v2 K2 ⟨rfl, rfl⟩
    simp only [k3A]
    have hkl : (seenK T0 seen).length ≤ 1024 := by
      unfold seenK
      rw [List.length_map]
      refine Nat.le_trans (List.length_filterMap_le _ _) ?_
      have := hT.len; omega
    have hO2 : OwnR (H.length + 1) 77 3 24 (K2 ++ [AObj.cells [[.val (.int .i64 pr.1.1), .val (.int .i64 pr.1.2.1), .val (.int .i64 pr.1.2.2)]] 77]) a (k3s (seenK T0 seen)) := ⟨hO1.app _, k3s_three _, by rw [k3s_len]; omega⟩
    repeat' (first | refine spD (fun _ => ?_) (fun _ => ?_) | refine spF (fun _ => ?_) (fun _ => ?_) | (apply gT; (exact rfl)) | (apply off; (exact rfl); (exact rfl)) | (apply condT; (exact rfl)) | (apply condF; (exact rfl)) | ((first | (apply stp0; (exact rfl); (exact rfl)) | (apply stpN0; (exact rfl)) | apply gT | apply condT | ((first | apply bodyQ_d0 | apply bodyQ_d1 | apply bodyQ_d2 | apply bodyQ_d3 | apply bodyQ_d4); (exact .inr rfl); (rw [Try.results34]))); (first | (focus (simp only [go_sem, ↓reduceIte, simprocAttr, t3] <;> rfl)) | exact rfl); (first | (fail_if_success (show okD _ _ _ _ _ _ _ _ _)) | (first | exact okT | exact okN | exact okE rfl)); (first | (fail_if_success (show Bel _ _)) | (focus first | exact .val _ | (simp [oneOf, Bel_iff_tup, Bel_iff_agg, Bel_iff_rsl, Bel_iff_fn, Bel_iff_rptr, Bel_val]; done)))) | (apply stpApp; (exact rfl); (first | exact hO2); (iterate 2 (first | (focus (simp only [go_sem, ↓reduceIte, simprocAttr, t3] <;> rfl)) | rfl)); (first | rfl | (simp [AV.isCell]; done)); (first | rfl | (simp; done)); (first | exact ap22 | exact ap23 | exact ap55 | exact ap79 | exact ap83 | exact ap96 | exact ap99); (first | exact okT | exact okN | exact okE rfl)) | refine thenQ_n ?_ | refine thenQ_r ?_ | refine thenQ_e ?_ | refine blockQ_n ?_ | refine blockQ_r ?_ | refine blockQ_e ?_ | (apply blockQ_o; (exact rfl)) | refine Awp.seq ?_ | refine Awp.skip ?_ | refine Awp.block ?_ | refine reg (fun s => s == 4 || s == 6) ?_ | (apply drwE mixed (fun s => s == 4 || s == 6); (kernel_rfl)) | refine fin ?_ | refine Awp.ret ?_ | refine Awp.exit ?_ | ((first | (apply off; (exact rfl)) | apply condF); (first | (focus (simp only [go_sem, ↓reduceIte, simprocAttr, t3] <;> rfl)) | exact rfl)))
    all_goals first | contradiction | skip
    have hlow : ∀ i, i < H.length + 1 → (ownK (K2 ++ [AObj.cells [[.val (.int .i64 pr.1.1), .val (.int .i64 pr.1.2.1), .val (.int .i64 pr.1.2.2)]] 77]) a ++ [AObj.cells (k3s (seenK T0 seen) ++ [[.val (.int .i64 pr.1.1), .val (.int .i64 pr.1.2.1), .val (.int .i64 pr.1.2.2)]]) 77])[i]? = K2[i]? := fun i hi => by
      rw [List.getElem?_append_left (by rw [ownK_len, List.length_append]; omega), ownK_low hO2.own hi, List.getElem?_append_left (by omega)]
    have hk3 : k3s (seenK T0 seen) ++ [[.val (.int .i64 pr.1.1), .val (.int .i64 pr.1.2.1), .val (.int .i64 pr.1.2.2)]] = k3s (seenK T0 (seen ++ [j])) := by
      rw [seenK_app hpr]; unfold k3s; rw [List.map_append]; rfl
    have hO4 := hO2.own.next (by rw [List.length_append]; omega) [.val (.int .i64 pr.1.1), .val (.int .i64 pr.1.2.1), .val (.int .i64 pr.1.2.2)] rfl rfl
    rw [hk3] at hO4 hlow ⊢
    refine ⟨seen ++ [j], ⟨?_, fun i hi => ?_, ⟨by (first | (focus (simp only [go_sem, ↓reduceIte, simprocAttr, t0]; first | done | rfl)) | rfl), by (first | (focus (simp only [go_sem, ↓reduceIte, simprocAttr, t1]; first | done | rfl)) | rfl), by (first | (focus (simp only [go_sem, ↓reduceIte, simprocAttr, t11]; first | done | rfl)) | rfl)⟩, ?_, fun i hi hib => (hlow i (by omega)).trans (hKo1 i hi hib), (hlow b (by omega)).trans hKb1, (hlow _ (by omega)).trans hKr1, hO4, fun es ex h => by cases h⟩, ?_⟩
    · exact List.nodup_append.2 ⟨hsn, by simp, fun x hx y hy h => by simp at hy; rw [hy] at h; rw [h] at hx; exact hj hx⟩
    · rcases List.mem_append.1 hi with hi | hi
      · exact hsl i hi
      · simp at hi; rw [hi]; exact hjl
    · rw [List.length_append, ownK_len, List.length_append]; omega
    · have := seen_len (n := T0.length) (seen := seen ++ [j]) (List.nodup_append.2 ⟨hsn, by simp, fun x hx y hy h => by simp at hy; rw [hy] at h; rw [h] at hx; exact hj hx⟩) (fun i hi => by
        rcases List.mem_append.1 hi with hi | hi
        · exact hsl i hi
        · simp at hi; rw [hi]; exact hjl)
      rw [List.length_append, List.length_singleton] at this ⊢
      omega

end Go.Proofs.Ytdmgljlabigljaa.Ab
