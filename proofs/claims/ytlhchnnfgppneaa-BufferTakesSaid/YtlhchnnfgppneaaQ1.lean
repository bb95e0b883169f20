/- The reference's Burst. -/
import Derived.Test.YtlhchnnfgppneaaQ0
namespace Go.Proofs.Ytlhchnnfgppneaa.Ab
open Go Go.RowKit Go.Proofs
set_option linter.unusedSimpArgs false
set_option linter.unusedVariables false
attribute [local irreducible] Awp wpO thenQ blockQ bodyQ ACalls stepA

theorem mkS_set {t : Int} {o : List Int} {L : List Hd} {i : Nat} {h : Hd} (hn : (idsL L).Nodup) (hi : L[i]? = some h) : (L.map (mkS t o)).set i { h with sent := t } = L.map (mkS t (o ++ [h.r.id])) := by
  refine List.ext_getElem? fun k => ?_
  rw [List.getElem?_set, List.getElem?_map]
  by_cases e : i = k
  · subst e
    rw [if_pos rfl, if_pos (by rw [List.length_map]; exact (List.getElem?_eq_some_iff.1 hi).1), List.getElem?_map, hi, Option.map_some]
    unfold mkS; rw [if_pos (by simp)]
  · rw [if_neg e, List.getElem?_map]
    cases ek : L[k]? with
    | none => rfl
    | some y =>
      have hne : ¬ y.r.id = h.r.id := fun ee => by
        have a1 : (idsL L)[i]? = some h.r.id := by unfold idsL; rw [List.getElem?_map, hi]; rfl
        have a2 : (idsL L)[k]? = some h.r.id := by unfold idsL; rw [List.getElem?_map, ek, ← ee]; rfl
        have l1 := List.getElem?_eq_some_iff.1 a1
        have l2 := List.getElem?_eq_some_iff.1 a2
        rcases Nat.lt_trichotomy i k with c | c | c
        · exact absurd (l1.2.trans l2.2.symm) (List.pairwise_iff_getElem.1 hn i k l1.1 l2.1 c)
        · exact e c
        · exact absurd (l2.2.trans l1.2.symm) (List.pairwise_iff_getElem.1 hn k i l2.1 l1.1 c)
      simp only [Option.map_some]
      unfold mkS
      have : (y.r.id ∈ o ++ [h.r.id]) ↔ y.r.id ∈ o := by simp [hne]
      simp only [this]
theorem mkS_at {t wt room : Int} {L : List Hd} {i : Nat} {h : Hd} (hn : (idsL L).Nodup) (hi : L[i]? = some h) : (L.map (mkS t (bst t wt (L.take i) room).2))[i]? = some h := by
  rw [List.getElem?_map, hi, Option.map_some]
  unfold mkS
  rw [if_neg]
  intro hx
  have h1 := (bst_mem (L.take i) (room, []) _ hx).resolve_left (by simp)
  rw [idsL_split hi] at hn
  exact (List.pairwise_append.1 hn).2.2 _ h1 _ (by simp) rfl
theorem hds_set (v : List Hd) (i : Nat) (h : Hd) : (hds v).set i h.cs = hds (v.set i h) := by unfold hds; rw [List.map_set]

/-- between the rounds of the reference's burst -/
structure QI (H K : Hp) (q o : Nat) (n : Nat) (c t : Int) (L : List Hd) (a : AV) (out : List Int) : Prop where
  len : H.length ≤ K.length
  old : ∀ j, j < H.length → j ≠ q → j ≠ o → K[j]? = H[j]?
  hb : K[q]? = some (.cells [[iv c, iv t, .msl o 0 n]] 73)
  row : ∃ v, K[o]? = some (.cells (hds v) 53) ∧ n ≤ v.length ∧ v.take n = L
  ot : OutR H.length K a out
theorem QI.app {H K : Hp} {q o n : Nat} {c t : Int} {L : List Hd} {a : AV} {out : List Int} (h : QI H K q o n c t L a out) (X : Hp) : QI H (K ++ X) q o n c t L a out := by
  obtain ⟨v, h1, h2, h3⟩ := h.row
  refine ⟨by have := h.len; simp; omega, fun j hj x y => by rw [List.getElem?_append_left (by have := h.len; omega)]; exact h.old j hj x y, (held h.hb).2.1 X, ⟨v, (held h1).2.1 X, h2, h3⟩, ?_⟩
  cases h.ot with
  | nil => exact .nil
  | row hne hlo hb => exact .row hne hlo ((held hb).2.1 X)
theorem QI.next {H K : Hp} {q o n : Nat} {c t : Int} {L : List Hd} {a : AV} {out : List Int} (h : QI H K q o n c t L a out) (hq : q < H.length) (ho : o < H.length) (hqo : q ≠ o) {v : List Hd} (hv : K[o]? = some (.cells (hds v) 53)) (hnv : n ≤ v.length) (he : v.take n = L) {i : Nat} (x : Hd) (y : Int) {k m : Nat} (hk : k = K.length) (hm : m = out.length + 1) :
    QI H (ownK (K.set o (.cells (hds (v.set i x)) 53)) a ++ [AObj.cells (ints out ++ [[iv y]]) 2]) q o n c t (L.set i x) (.msl k 0 m) (out ++ [y]) := by
  subst hk hm
  have hl := h.len
  have hO2 : Own H.length 2 (K.set o (.cells (hds (v.set i x)) 53)) a (ints out) := (h.ot.low ho _).own
  have key : ∀ j, j < H.length → (ownK (K.set o (.cells (hds (v.set i x)) 53)) a ++ [AObj.cells (ints out ++ [[iv y]]) 2])[j]? = (K.set o (.cells (hds (v.set i x)) 53))[j]? := fun j hj => by
    rw [List.getElem?_append_left (by rw [ownK_len, List.length_set]; omega), ownK_low hO2 hj]
  refine ⟨?_, fun j hj b d => ?_, ?_, ⟨v.set i x, ?_, by rw [List.length_set]; exact hnv, by rw [← he, List.take_set]⟩, ?_⟩
  · rw [List.length_append, ownK_len, List.length_set]; omega
  · rw [key j hj, List.getElem?_set_ne (Ne.symm d)]; exact h.old j hj b d
  · rw [key q hq, List.getElem?_set_ne (Ne.symm hqo)]; exact h.hb
  · rw [key o ho]; exact List.getElem?_set_self (by omega)
  · have e := OutR.row (lo := H.length) (b := K.length) (v := out ++ [y]) (H := ownK (K.set o (.cells (hds (v.set i x)) 53)) a ++ [AObj.cells (ints out ++ [[iv y]]) 2]) (by simp) hl (by
      rw [← ints_app]
      have := get_new (ownK (K.set o (.cells (hds (v.set i x)) 53)) a) (.cells (ints out ++ [[iv y]]) 2)
      rw [ownK_len, List.length_set] at this
      exact this)
    rw [List.length_append] at e
    exact e

set_option maxRecDepth 8000 in
set_option maxHeartbeats 4000000 in
theorem rBurst_ok {H : Hp} {q : Nat} {a : AV} {c tm : Int} {L : List Hd} (hQ : Rq H q a c tm L) (hn : (idsL L).Nodup) (hk : ∀ h ∈ L, h.r.ok) (hl : L.length ≤ 257) (room t wt : Int) (h1 : 0 ≤ room ∧ room ≤ 16777216) (h0 : 0 ≤ tm) (h2 : tm ≤ t ∧ t ≤ 1073741824) (h3 : 0 ≤ wt ∧ wt ≤ 1073741824) :
    ACalls Try.prog 32 [.mptr q 0 0, iv room, iv t, iv wt] H fun v1 H1 => ∃ z, v1 = .tup [z, iv 0] ∧ OutR H.length H1 z (bst t wt L room).2 ∧ Rq H1 q a c t (L.map (mkS t (bst t wt L room).2)) ∧ H.length ≤ H1.length ∧ ∀ j, j < H.length → j ≠ q → (∀ m, a ≠ .msl j 0 m) → H1[j]? = H[j]? := by
  have hb := hQ.hb
  have n1 : ¬ room < 0 := by omega
  have n2 : ¬ room > 16777216 := by omega
  have n3 : ¬ t < tm := by omega
  have n4 : ¬ t > 1073741824 := by omega
  have n5 : ¬ wt < 0 := by omega
  have n6 : ¬ wt > 1073741824 := by omega
  have w1 : IntKind.i64.wrap (t - wt) = t - wt := w64 (by omega) (by omega)
  cases hQ.row with
  | nil =>
    refine ACalls.of_body Try.func32 rfl (by kernel_rfl) (by rw [Try.ntmps32]; simp) ?_; rw [Try.ntmps32]
    repeat' (first | refine spD (fun _ => ?_) (fun _ => ?_) | refine spF (fun _ => ?_) (fun _ => ?_) | (apply gT; (exact rfl)) | (apply off; (exact rfl); (exact rfl)) | (apply condT; (exact rfl)) | (apply condF; (exact rfl)) | ((first | (apply stp0; (exact rfl); (exact rfl)) | (apply stpN0; (exact rfl)) | apply gT | apply condT | ((first | apply bodyQ_d0 | apply bodyQ_d1 | apply bodyQ_d2 | apply bodyQ_d3 | apply bodyQ_d4); (exact .inr rfl); (rw [Try.results32]))); (first | (focus (simp only [go_sem, ↓reduceIte, simprocAttr, hb, n1, n2, n3, n4, n5, n6] <;> rfl)) | exact rfl); (first | (fail_if_success (show okD _ _ _ _ _ _ _ _ _)) | (first | exact okT | exact okN | exact okE rfl)); (first | (fail_if_success (show Bel _ _)) | (focus first | exact .val _ | (simp [oneOf, Bel_iff_tup, Bel_iff_agg, Bel_iff_rsl, Bel_iff_fn, Bel_iff_rptr, Bel_val]; done)))) | refine thenQ_n ?_ | refine thenQ_r ?_ | refine thenQ_e ?_ | refine blockQ_n ?_ | refine blockQ_r ?_ | refine blockQ_e ?_ | (apply blockQ_o; (exact rfl)) | refine Awp.seq ?_ | refine Awp.skip ?_ | refine Awp.block ?_ | refine reg (fun s => s == 12) ?_ | (apply drwE mixed (fun s => s == 12); (kernel_rfl)) | refine fin ?_ | refine Awp.ret ?_ | refine Awp.exit ?_ | ((first | (apply off; (exact rfl)) | apply condF); (first | (focus (simp only [go_sem, ↓reduceIte, simprocAttr, hb, n1, n2, n3, n4, n5, n6] <;> rfl)) | exact rfl)))
    all_goals first | contradiction | (exfalso; omega) | skip
    have hqN := (heldS hb).1 (.cells [[iv c, iv t, nilS]] 73)
    refine Awp.loop (ι := Nat) (fun _ T' K => T' 0 = .mptr q 0 0 ∧ T' 11 = iv 0 ∧ T' 10 = nilS ∧ K = H.set q (.cells [[iv c, iv t, nilS]] 73)) (fun m => m) 0 ?_ ?_
    · refine ⟨?_, ?_, ?_, rfl⟩
      · (first | (focus (simp only [go_sem, ↓reduceIte, simprocAttr]; first | done | rfl)) | rfl)
      · (first | (focus (simp only [go_sem, ↓reduceIte, simprocAttr]; first | done | rfl)) | rfl)
      · (first | (focus (simp only [go_sem, ↓reduceIte, simprocAttr]; first | done | rfl)) | rfl)
    rintro m T K ⟨t0, t11, t10, hK⟩
    rw [hK]
    repeat' (first | refine spD (fun _ => ?_) (fun _ => ?_) | refine spF (fun _ => ?_) (fun _ => ?_) | (apply gT; (exact rfl)) | (apply off; (exact rfl); (exact rfl)) | (apply condT; (exact rfl)) | (apply condF; (exact rfl)) | ((first | (apply stp0; (exact rfl); (exact rfl)) | (apply stpN0; (exact rfl)) | apply gT | apply condT); (first | (focus (simp only [go_sem, ↓reduceIte, simprocAttr, t0, t11, t10, hqN] <;> rfl)) | exact rfl); (first | (fail_if_success (show okD _ _ _ _ _ _ _ _ _)) | (first | exact okT | exact okN | exact okE rfl))) | refine thenQ_n ?_ | refine thenQ_r ?_ | refine thenQ_e ?_ | refine blockQ_n ?_ | refine blockQ_r ?_ | refine blockQ_e ?_ | (apply blockQ_o; (exact rfl)) | refine Awp.seq ?_ | refine Awp.skip ?_ | refine Awp.block ?_ | refine reg (fun s => s == 12) ?_ | (apply drwE mixed (fun s => s == 12); (kernel_rfl)) | refine fin ?_ | refine Awp.ret ?_ | refine Awp.exit ?_ | ((first | (apply off; (exact rfl)) | apply condF); (first | (focus (simp only [go_sem, ↓reduceIte, simprocAttr, t0, t11, t10, hqN] <;> rfl)) | exact rfl)))
    all_goals first | contradiction | (exfalso; omega) | skip
    exact bodyQ_mk (vs := [nilS, iv 0]) (.inr rfl) (by rw [Try.results32]; simp only [go_sem, ↓reduceIte, simprocAttr, t10]) (Vs.refl _ _ _) ⟨nilS, rfl, .nil, ⟨hqN, .nil⟩, by rw [List.length_set]; exact Nat.le_refl _, fun j _ hj _ => List.getElem?_set_ne (Ne.symm hj)⟩
  | row hbv hnv =>
    rename_i o n v
    have hqo : q ≠ o := fun e => by rw [e, hbv] at hb; simp at hb
    have hql := (List.getElem?_eq_some_iff.1 hb).1
    have hol := (List.getElem?_eq_some_iff.1 hbv).1
    have hln : (v.take n).length = n := by rw [List.length_take, Nat.min_eq_left hnv]
    rw [hln] at hl
    obtain ⟨L, hL⟩ : ∃ L, L = v.take n := ⟨_, rfl⟩
    have hst : QI H (H.set q (.cells [[iv c, iv t, .msl o 0 n]] 73)) q o n c t L nilS [] := by
      refine ⟨by rw [List.length_set]; exact Nat.le_refl _, fun j _ hj _ => List.getElem?_set_ne (Ne.symm hj), List.getElem?_set_self hql, ⟨v, ?_, hnv, hL.symm⟩, .nil⟩
      rw [List.getElem?_set_ne hqo]; exact hbv
    rw [← hL] at hn hk hln ⊢
    have hlm : n ≤ maxLen := by simp only [maxLen]; omega
    have m0 : L.map (mkS t []) = L := by
      have : mkS t [] = id := funext fun h => by unfold mkS; simp
      rw [this, List.map_id]
    refine ACalls.of_body Try.func32 rfl (by kernel_rfl) (by rw [Try.ntmps32]; simp) ?_; rw [Try.ntmps32]
    repeat' (first | refine spD (fun _ => ?_) (fun _ => ?_) | refine spF (fun _ => ?_) (fun _ => ?_) | (apply gT; (exact rfl)) | (apply off; (exact rfl); (exact rfl)) | (apply condT; (exact rfl)) | (apply condF; (exact rfl)) | ((first | (apply stp0; (exact rfl); (exact rfl)) | (apply stpN0; (exact rfl)) | apply gT | apply condT | ((first | apply bodyQ_d0 | apply bodyQ_d1 | apply bodyQ_d2 | apply bodyQ_d3 | apply bodyQ_d4); (exact .inr rfl); (rw [Try.results32]))); (first | (focus (simp only [go_sem, ↓reduceIte, simprocAttr, hb, n1, n2, n3, n4, n5, n6] <;> rfl)) | exact rfl); (first | (fail_if_success (show okD _ _ _ _ _ _ _ _ _)) | (first | exact okT | exact okN | exact okE rfl)); (first | (fail_if_success (show Bel _ _)) | (focus first | exact .val _ | (simp [oneOf, Bel_iff_tup, Bel_iff_agg, Bel_iff_rsl, Bel_iff_fn, Bel_iff_rptr, Bel_val]; done)))) | refine thenQ_n ?_ | refine thenQ_r ?_ | refine thenQ_e ?_ | refine blockQ_n ?_ | refine blockQ_r ?_ | refine blockQ_e ?_ | (apply blockQ_o; (exact rfl)) | refine Awp.seq ?_ | refine Awp.skip ?_ | refine Awp.block ?_ | refine reg (fun s => s == 12) ?_ | (apply drwE mixed (fun s => s == 12); (kernel_rfl)) | refine fin ?_ | refine Awp.ret ?_ | refine Awp.exit ?_ | ((first | (apply off; (exact rfl)) | apply condF); (first | (focus (simp only [go_sem, ↓reduceIte, simprocAttr, hb, n1, n2, n3, n4, n5, n6] <;> rfl)) | exact rfl)))
    all_goals first | contradiction | (exfalso; omega) | skip
    refine Awp.loop (ι := Nat) (fun i T' K => i ≤ n ∧ (T' 0 = .mptr q 0 0 ∧ T' 2 = iv t ∧ T' 3 = iv wt ∧ T' 11 = iv i) ∧ T' 1 = iv (bst t wt (L.take i) room).1 ∧ ∃ z, T' 10 = z ∧ QI H K q o n c t (L.map (mkS t (bst t wt (L.take i) room).2)) z (bst t wt (L.take i) room).2) (fun i => n - i) 0 ?_ ?_
    · refine ⟨Nat.zero_le _, ⟨?_, ?_, ?_, ?_⟩, ?_, nilS, ?_, ?_⟩
      · (first | (focus (simp only [go_sem, ↓reduceIte, simprocAttr]; first | done | rfl)) | rfl)
      · (first | (focus (simp only [go_sem, ↓reduceIte, simprocAttr]; first | done | rfl)) | rfl)
      · (first | (focus (simp only [go_sem, ↓reduceIte, simprocAttr]; first | done | rfl)) | rfl)
      · (first | (focus (simp only [go_sem, ↓reduceIte, simprocAttr]; first | done | rfl)) | rfl)
      · (first | (focus (simp only [go_sem, ↓reduceIte, simprocAttr]; first | done | rfl)) | rfl)
      · (first | (focus (simp only [go_sem, ↓reduceIte, simprocAttr]; first | done | rfl)) | rfl)
      · show QI H _ q o n c t (L.map (mkS t [])) nilS []
        rw [m0]; exact hst
    clear hst hbv hnv hL hQ m0
    rintro i T K ⟨hi, ⟨t0, t2, t3, t11⟩, t1, z, t10, hI⟩
    have hqK := hI.hb
    by_cases hlt : i < n
    · obtain ⟨h, hh⟩ := nth (l := L) (i := i) (by omega)
      have hat := mkS_at (t := t) (wt := wt) (room := room) hn hh
      have hset := mkS_set (t := t) (o := (bst t wt (L.take i) room).2) hn hh
      have hsc := bst_succ (t := t) (wt := wt) (room := room) hh
      have hrm : 0 ≤ (bst t wt (L.take i) room).1 ∧ (bst t wt (L.take i) room).1 ≤ room := bst_room (L.take i) (room, []) (fun x hx => hk x (List.mem_of_mem_take hx)) h1.1
      have hol2 : (bst t wt (L.take i) room).2.length ≤ 0 + (L.take i).length := bst_len (L.take i) (room, [])
      have hok := hk h (List.mem_of_getElem? hh)
      have hby := fun H => rbytes_ok H h
      simp only [Hd.cs] at hby
      have hsu := wsucc hlt hlm
      obtain ⟨st, hst⟩ : ∃ st, st = bst t wt (L.take i) room := ⟨_, rfl⟩
      rw [← hst] at hat hset hsc hrm hol2 t1 hI
      obtain ⟨rm, ok⟩ := st
      simp only at hat hset hrm hol2 t1 hI
      rw [List.length_take] at hol2
      clear hst
      obtain ⟨v, hv, hnv, hvt⟩ := hI.row
      have hvi : (hds v)[i]? = some [iv h.r.id, iv h.r.cls, iv h.r.made, iv h.r.size, iv h.r.pk, bv h.sm, iv h.sent] := by
        rw [← hvt, List.getElem?_take, if_pos hlt] at hat
        exact hds_at hat
      have hvl := hds_len v
      repeat' ((fail_if_success (apply stopR (id := 9))); (fail_if_success (apply stopS (id := 9))); first | refine spD (fun _ => ?_) (fun _ => ?_) | refine spF (fun _ => ?_) (fun _ => ?_) | (apply gT; (exact rfl)) | (apply off; (exact rfl); (exact rfl)) | (apply condT; (exact rfl)) | (apply condF; (exact rfl)) | ((first | (apply stp0; (exact rfl); (exact rfl)) | (apply stpN0; (exact rfl)) | apply gT | apply condT | ((first | apply bodyQ_d0 | apply bodyQ_d1 | apply bodyQ_d2 | apply bodyQ_d3 | apply bodyQ_d4); (exact .inr rfl); (rw [Try.results32]))); (first | (focus (simp only [go_sem, ↓reduceIte, simprocAttr, Int.ofNat_lt.2 hlt, t0, t1, t2, t3, t11, hqK, hv, hvl, hvi, hlt, Nat.zero_add] <;> rfl)) | exact rfl); (first | (fail_if_success (show okD _ _ _ _ _ _ _ _ _)) | (first | exact okT | exact okN | exact okE rfl)); (first | (fail_if_success (show Bel _ _)) | (focus first | exact .val _ | (simp [oneOf, Bel_iff_tup, Bel_iff_agg, Bel_iff_rsl, Bel_iff_fn, Bel_iff_rptr, Bel_val]; done)))) | refine thenQ_n ?_ | refine thenQ_r ?_ | refine thenQ_e ?_ | refine blockQ_n ?_ | refine blockQ_r ?_ | refine blockQ_e ?_ | (apply blockQ_o; (exact rfl)) | refine Awp.seq ?_ | refine Awp.skip ?_ | refine Awp.block ?_ | refine reg (fun s => s == 12) ?_ | (apply drwE mixed (fun s => s == 12); (kernel_rfl)) | refine fin ?_ | refine Awp.ret ?_ | refine Awp.exit ?_ | ((first | (apply off; (exact rfl)) | apply condF); (first | (focus (simp only [go_sem, ↓reduceIte, simprocAttr, Int.ofNat_lt.2 hlt, t0, t1, t2, t3, t11, hqK, hv, hvl, hvi, hlt, Nat.zero_add] <;> rfl)) | exact rfl)))
      all_goals first | contradiction | (exfalso; omega) | skip
      refine Awp.withT (fun T' => T' 0 = .mptr q 0 0 ∧ T' 1 = iv rm ∧ T' 2 = iv t ∧ T' 3 = iv wt ∧ T' 11 = iv i ∧ T' 10 = z ∧ T' 12 = .mptr K.length 0 0) ⟨?_, ?_, ?_, ?_, ?_, ?_, ?_⟩ ?_
      · (first | (focus (simp only [go_sem, ↓reduceIte, simprocAttr, t0]; first | done | rfl)) | rfl)
      · (first | (focus (simp only [go_sem, ↓reduceIte, simprocAttr, t1]; first | done | rfl)) | rfl)
      · (first | (focus (simp only [go_sem, ↓reduceIte, simprocAttr, t2]; first | done | rfl)) | rfl)
      · (first | (focus (simp only [go_sem, ↓reduceIte, simprocAttr, t3]; first | done | rfl)) | rfl)
      · (first | (focus (simp only [go_sem, ↓reduceIte, simprocAttr, t11]; first | done | rfl)) | rfl)
      · (first | (focus (simp only [go_sem, ↓reduceIte, simprocAttr, t10]; first | done | rfl)) | rfl)
      · (first | (focus (simp only [go_sem, ↓reduceIte, simprocAttr]; first | done | rfl)) | rfl)
      clear t0 t1 t2 t3 t11 t10 T
      have h12 := get_new K (.cells [[iv h.r.id, iv h.r.cls, iv h.r.made, iv h.r.size, iv h.r.pk, bv h.sm, iv h.sent]] 53)
      have hKl := hI.len
      replace hI := hI.app [.cells [[iv h.r.id, iv h.r.cls, iv h.r.made, iv h.r.size, iv h.r.pk, bv h.sm, iv h.sent]] 53]
      replace hv := (held hv).2.1 [.cells [[iv h.r.id, iv h.r.cls, iv h.r.made, iv h.r.size, iv h.r.pk, bv h.sm, iv h.sent]] 53]
      generalize K ++ [AObj.cells [[iv h.r.id, iv h.r.cls, iv h.r.made, iv h.r.size, iv h.r.pk, bv h.sm, iv h.sent]] 53] = K3 at *
      clear hqK
      have hqK := hI.hb
      have hK3 := hI.len
      generalize K.length = x at *
      clear K
      rintro T ⟨t0, t1, t2, t3, t11, t10, t12⟩
      refine Awp.mono (Q := fun e T' J => (e = if dueB t wt h = true ∧ h.bytes ≤ rm then .normal else .exit 1) ∧ J = K3 ∧ T' 0 = .mptr q 0 0 ∧ T' 1 = iv rm ∧ T' 2 = iv t ∧ T' 3 = iv wt ∧ T' 11 = iv i ∧ T' 10 = z ∧ T' 12 = .mptr x 0 0) ?_ ?_
      · by_cases e : h.sent = -1
        · have hd : dueB t wt h = true := by simp [dueB, e]
          have hbe := hby
          simp only [e] at hbe
          by_cases hb : h.bytes ≤ rm
          · have hb2 : ¬ h.bytes > rm := Int.not_lt.2 hb
            repeat' (first | refine spD (fun _ => ?_) (fun _ => ?_) | refine spF (fun _ => ?_) (fun _ => ?_) | (apply gT; (exact rfl)) | (apply off; (exact rfl); (exact rfl)) | (apply condT; (exact rfl)) | (apply condF; (exact rfl)) | ((first | (apply stp0; (exact rfl); (exact rfl)) | (apply stpN0; (exact rfl)) | apply gT | apply condT | ((first | apply bodyQ_d0 | apply bodyQ_d1 | apply bodyQ_d2 | apply bodyQ_d3 | apply bodyQ_d4); (exact .inr rfl); (rw [Try.results32]))); (first | (focus (simp only [go_sem, ↓reduceIte, simprocAttr, t0, t1, t2, t3, t11, t10, t12, h12, w1, e, hb2] <;> rfl)) | exact rfl); (first | (fail_if_success (show okD _ _ _ _ _ _ _ _ _)) | (first | exact okT | exact okN | exact okE rfl)); (first | (fail_if_success (show Bel _ _)) | (focus first | exact .val _ | (simp [oneOf, Bel_iff_tup, Bel_iff_agg, Bel_iff_rsl, Bel_iff_fn, Bel_iff_rptr, Bel_val]; done)))) | (apply calTo0; (exact rfl); (iterate 2 (simp only [go_sem, ↓reduceIte, simprocAttr, t0, t1, t2, t3, t11, t10, t12, h12, w1, e, hb2]; rfl)); (first | exact hbe _); (first | exact okT | exact okN | exact okE rfl)) | refine thenQ_n ?_ | refine thenQ_r ?_ | refine thenQ_e ?_ | refine blockQ_n ?_ | refine blockQ_r ?_ | refine blockQ_e ?_ | (apply blockQ_o; (exact rfl)) | refine Awp.seq ?_ | refine Awp.skip ?_ | refine Awp.block ?_ | refine reg (fun s => s == 12) ?_ | (apply drwE mixed (fun s => s == 12); (kernel_rfl)) | refine fin ?_ | refine Awp.ret ?_ | refine Awp.exit ?_ | ((first | (apply off; (exact rfl)) | apply condF); (first | (focus (simp only [go_sem, ↓reduceIte, simprocAttr, t0, t1, t2, t3, t11, t10, t12, h12, w1, e, hb2] <;> rfl)) | exact rfl)))
            all_goals first | contradiction | (exfalso; omega) | skip
            refine ⟨(if_pos ⟨hd, hb⟩).symm, rfl, ?_, ?_, ?_, ?_, ?_, ?_, ?_⟩
            · (first | (focus (simp only [go_sem, ↓reduceIte, simprocAttr, t0]; first | done | rfl)) | rfl)
            · (first | (focus (simp only [go_sem, ↓reduceIte, simprocAttr, t1]; first | done | rfl)) | rfl)
            · (first | (focus (simp only [go_sem, ↓reduceIte, simprocAttr, t2]; first | done | rfl)) | rfl)
            · (first | (focus (simp only [go_sem, ↓reduceIte, simprocAttr, t3]; first | done | rfl)) | rfl)
            · (first | (focus (simp only [go_sem, ↓reduceIte, simprocAttr, t11]; first | done | rfl)) | rfl)
            · (first | (focus (simp only [go_sem, ↓reduceIte, simprocAttr, t10]; first | done | rfl)) | rfl)
            · (first | (focus (simp only [go_sem, ↓reduceIte, simprocAttr, t12]; first | done | rfl)) | rfl)
          · have hb2 : h.bytes > rm := Int.not_le.1 hb
            repeat' (first | refine spD (fun _ => ?_) (fun _ => ?_) | refine spF (fun _ => ?_) (fun _ => ?_) | (apply gT; (exact rfl)) | (apply off; (exact rfl); (exact rfl)) | (apply condT; (exact rfl)) | (apply condF; (exact rfl)) | ((first | (apply stp0; (exact rfl); (exact rfl)) | (apply stpN0; (exact rfl)) | apply gT | apply condT | ((first | apply bodyQ_d0 | apply bodyQ_d1 | apply bodyQ_d2 | apply bodyQ_d3 | apply bodyQ_d4); (exact .inr rfl); (rw [Try.results32]))); (first | (focus (simp only [go_sem, ↓reduceIte, simprocAttr, t0, t1, t2, t3, t11, t10, t12, h12, w1, e, hb2] <;> rfl)) | exact rfl); (first | (fail_if_success (show okD _ _ _ _ _ _ _ _ _)) | (first | exact okT | exact okN | exact okE rfl)); (first | (fail_if_success (show Bel _ _)) | (focus first | exact .val _ | (simp [oneOf, Bel_iff_tup, Bel_iff_agg, Bel_iff_rsl, Bel_iff_fn, Bel_iff_rptr, Bel_val]; done)))) | (apply calTo0; (exact rfl); (iterate 2 (simp only [go_sem, ↓reduceIte, simprocAttr, t0, t1, t2, t3, t11, t10, t12, h12, w1, e, hb2]; rfl)); (first | exact hbe _); (first | exact okT | exact okN | exact okE rfl)) | refine thenQ_n ?_ | refine thenQ_r ?_ | refine thenQ_e ?_ | refine blockQ_n ?_ | refine blockQ_r ?_ | refine blockQ_e ?_ | (apply blockQ_o; (exact rfl)) | refine Awp.seq ?_ | refine Awp.skip ?_ | refine Awp.block ?_ | refine reg (fun s => s == 12) ?_ | (apply drwE mixed (fun s => s == 12); (kernel_rfl)) | refine fin ?_ | refine Awp.ret ?_ | refine Awp.exit ?_ | ((first | (apply off; (exact rfl)) | apply condF); (first | (focus (simp only [go_sem, ↓reduceIte, simprocAttr, t0, t1, t2, t3, t11, t10, t12, h12, w1, e, hb2] <;> rfl)) | exact rfl)))
            all_goals first | contradiction | (exfalso; omega) | skip
            refine ⟨(if_neg (fun k => hb k.2)).symm, rfl, ?_, ?_, ?_, ?_, ?_, ?_, ?_⟩
            · (first | (focus (simp only [go_sem, ↓reduceIte, simprocAttr, t0]; first | done | rfl)) | rfl)
            · (first | (focus (simp only [go_sem, ↓reduceIte, simprocAttr, t1]; first | done | rfl)) | rfl)
            · (first | (focus (simp only [go_sem, ↓reduceIte, simprocAttr, t2]; first | done | rfl)) | rfl)
            · (first | (focus (simp only [go_sem, ↓reduceIte, simprocAttr, t3]; first | done | rfl)) | rfl)
            · (first | (focus (simp only [go_sem, ↓reduceIte, simprocAttr, t11]; first | done | rfl)) | rfl)
            · (first | (focus (simp only [go_sem, ↓reduceIte, simprocAttr, t10]; first | done | rfl)) | rfl)
            · (first | (focus (simp only [go_sem, ↓reduceIte, simprocAttr, t12]; first | done | rfl)) | rfl)
        · by_cases e2 : h.sent > t - wt
          · have hd : dueB t wt h = false := by simp [dueB, e]; omega
            repeat' (first | refine spD (fun _ => ?_) (fun _ => ?_) | refine spF (fun _ => ?_) (fun _ => ?_) | (apply gT; (exact rfl)) | (apply off; (exact rfl); (exact rfl)) | (apply condT; (exact rfl)) | (apply condF; (exact rfl)) | ((first | (apply stp0; (exact rfl); (exact rfl)) | (apply stpN0; (exact rfl)) | apply gT | apply condT | ((first | apply bodyQ_d0 | apply bodyQ_d1 | apply bodyQ_d2 | apply bodyQ_d3 | apply bodyQ_d4); (exact .inr rfl); (rw [Try.results32]))); (first | (focus (simp only [go_sem, ↓reduceIte, simprocAttr, t0, t1, t2, t3, t11, t10, t12, h12, w1, e, e2] <;> rfl)) | exact rfl); (first | (fail_if_success (show okD _ _ _ _ _ _ _ _ _)) | (first | exact okT | exact okN | exact okE rfl)); (first | (fail_if_success (show Bel _ _)) | (focus first | exact .val _ | (simp [oneOf, Bel_iff_tup, Bel_iff_agg, Bel_iff_rsl, Bel_iff_fn, Bel_iff_rptr, Bel_val]; done)))) | (apply calTo0; (exact rfl); (iterate 2 (simp only [go_sem, ↓reduceIte, simprocAttr, t0, t1, t2, t3, t11, t10, t12, h12, w1, e, e2]; rfl)); (first | exact hby _); (first | exact okT | exact okN | exact okE rfl)) | refine thenQ_n ?_ | refine thenQ_r ?_ | refine thenQ_e ?_ | refine blockQ_n ?_ | refine blockQ_r ?_ | refine blockQ_e ?_ | (apply blockQ_o; (exact rfl)) | refine Awp.seq ?_ | refine Awp.skip ?_ | refine Awp.block ?_ | refine reg (fun s => s == 12) ?_ | (apply drwE mixed (fun s => s == 12); (kernel_rfl)) | refine fin ?_ | refine Awp.ret ?_ | refine Awp.exit ?_ | ((first | (apply off; (exact rfl)) | apply condF); (first | (focus (simp only [go_sem, ↓reduceIte, simprocAttr, t0, t1, t2, t3, t11, t10, t12, h12, w1, e, e2] <;> rfl)) | exact rfl)))
            all_goals first | contradiction | (exfalso; omega) | skip
            refine ⟨(if_neg (fun k => by rw [hd] at k; cases k.1)).symm, rfl, ?_, ?_, ?_, ?_, ?_, ?_, ?_⟩
            · (first | (focus (simp only [go_sem, ↓reduceIte, simprocAttr, t0]; first | done | rfl)) | rfl)
            · (first | (focus (simp only [go_sem, ↓reduceIte, simprocAttr, t1]; first | done | rfl)) | rfl)
            · (first | (focus (simp only [go_sem, ↓reduceIte, simprocAttr, t2]; first | done | rfl)) | rfl)
            · (first | (focus (simp only [go_sem, ↓reduceIte, simprocAttr, t3]; first | done | rfl)) | rfl)
            · (first | (focus (simp only [go_sem, ↓reduceIte, simprocAttr, t11]; first | done | rfl)) | rfl)
            · (first | (focus (simp only [go_sem, ↓reduceIte, simprocAttr, t10]; first | done | rfl)) | rfl)
            · (first | (focus (simp only [go_sem, ↓reduceIte, simprocAttr, t12]; first | done | rfl)) | rfl)
          · have hd : dueB t wt h = true := by simp [dueB]; omega
            by_cases hb : h.bytes ≤ rm
            · have hb2 : ¬ h.bytes > rm := Int.not_lt.2 hb
              repeat' (first | refine spD (fun _ => ?_) (fun _ => ?_) | refine spF (fun _ => ?_) (fun _ => ?_) | (apply gT; (exact rfl)) | (apply off; (exact rfl); (exact rfl)) | (apply condT; (exact rfl)) | (apply condF; (exact rfl)) | ((first | (apply stp0; (exact rfl); (exact rfl)) | (apply stpN0; (exact rfl)) | apply gT | apply condT | ((first | apply bodyQ_d0 | apply bodyQ_d1 | apply bodyQ_d2 | apply bodyQ_d3 | apply bodyQ_d4); (exact .inr rfl); (rw [Try.results32]))); (first | (focus (simp only [go_sem, ↓reduceIte, simprocAttr, t0, t1, t2, t3, t11, t10, t12, h12, w1, e, e2, hb2] <;> rfl)) | exact rfl); (first | (fail_if_success (show okD _ _ _ _ _ _ _ _ _)) | (first | exact okT | exact okN | exact okE rfl)); (first | (fail_if_success (show Bel _ _)) | (focus first | exact .val _ | (simp [oneOf, Bel_iff_tup, Bel_iff_agg, Bel_iff_rsl, Bel_iff_fn, Bel_iff_rptr, Bel_val]; done)))) | (apply calTo0; (exact rfl); (iterate 2 (simp only [go_sem, ↓reduceIte, simprocAttr, t0, t1, t2, t3, t11, t10, t12, h12, w1, e, e2, hb2]; rfl)); (first | exact hby _); (first | exact okT | exact okN | exact okE rfl)) | refine thenQ_n ?_ | refine thenQ_r ?_ | refine thenQ_e ?_ | refine blockQ_n ?_ | refine blockQ_r ?_ | refine blockQ_e ?_ | (apply blockQ_o; (exact rfl)) | refine Awp.seq ?_ | refine Awp.skip ?_ | refine Awp.block ?_ | refine reg (fun s => s == 12) ?_ | (apply drwE mixed (fun s => s == 12); (kernel_rfl)) | refine fin ?_ | refine Awp.ret ?_ | refine Awp.exit ?_ | ((first | (apply off; (exact rfl)) | apply condF); (first | (focus (simp only [go_sem, ↓reduceIte, simprocAttr, t0, t1, t2, t3, t11, t10, t12, h12, w1, e, e2, hb2] <;> rfl)) | exact rfl)))
              all_goals first | contradiction | (exfalso; omega) | skip
              refine ⟨(if_pos ⟨hd, hb⟩).symm, rfl, ?_, ?_, ?_, ?_, ?_, ?_, ?_⟩
              · (first | (focus (simp only [go_sem, ↓reduceIte, simprocAttr, t0]; first | done | rfl)) | rfl)
              · (first | (focus (simp only [go_sem, ↓reduceIte, simprocAttr, t1]; first | done | rfl)) | rfl)
              · (first | (focus (simp only [go_sem, ↓reduceIte, simprocAttr, t2]; first | done | rfl)) | rfl)
              · (first | (focus (simp only [go_sem, ↓reduceIte, simprocAttr, t3]; first | done | rfl)) | rfl)
              · (first | (focus (simp only [go_sem, ↓reduceIte, simprocAttr, t11]; first | done | rfl)) | rfl)
              · (first | (focus (simp only [go_sem, ↓reduceIte, simprocAttr, t10]; first | done | rfl)) | rfl)
              · (first | (focus (simp only [go_sem, ↓reduceIte, simprocAttr, t12]; first | done | rfl)) | rfl)
            · have hb2 : h.bytes > rm := Int.not_le.1 hb
              repeat' (first | refine spD (fun _ => ?_) (fun _ => ?_) | refine spF (fun _ => ?_) (fun _ => ?_) | (apply gT; (exact rfl)) | (apply off; (exact rfl); (exact rfl)) | (apply condT; (exact rfl)) | (apply condF; (exact rfl)) | ((first | (apply stp0; (exact rfl); (exact rfl)) | (apply stpN0; (exact rfl)) | apply gT | apply condT | ((first | apply bodyQ_d0 | apply bodyQ_d1 | apply bodyQ_d2 | apply bodyQ_d3 | apply bodyQ_d4); (exact .inr rfl); (rw [Try.results32]))); (first | (focus (simp only [go_sem, ↓reduceIte, simprocAttr, t0, t1, t2, t3, t11, t10, t12, h12, w1, e, e2, hb2] <;> rfl)) | exact rfl); (first | (fail_if_success (show okD _ _ _ _ _ _ _ _ _)) | (first | exact okT | exact okN | exact okE rfl)); (first | (fail_if_success (show Bel _ _)) | (focus first | exact .val _ | (simp [oneOf, Bel_iff_tup, Bel_iff_agg, Bel_iff_rsl, Bel_iff_fn, Bel_iff_rptr, Bel_val]; done)))) | (apply calTo0; (exact rfl); (iterate 2 (simp only [go_sem, ↓reduceIte, simprocAttr, t0, t1, t2, t3, t11, t10, t12, h12, w1, e, e2, hb2]; rfl)); (first | exact hby _); (first | exact okT | exact okN | exact okE rfl)) | refine thenQ_n ?_ | refine thenQ_r ?_ | refine thenQ_e ?_ | refine blockQ_n ?_ | refine blockQ_r ?_ | refine blockQ_e ?_ | (apply blockQ_o; (exact rfl)) | refine Awp.seq ?_ | refine Awp.skip ?_ | refine Awp.block ?_ | refine reg (fun s => s == 12) ?_ | (apply drwE mixed (fun s => s == 12); (kernel_rfl)) | refine fin ?_ | refine Awp.ret ?_ | refine Awp.exit ?_ | ((first | (apply off; (exact rfl)) | apply condF); (first | (focus (simp only [go_sem, ↓reduceIte, simprocAttr, t0, t1, t2, t3, t11, t10, t12, h12, w1, e, e2, hb2] <;> rfl)) | exact rfl)))
              all_goals first | contradiction | (exfalso; omega) | skip
              refine ⟨(if_neg (fun k => hb k.2)).symm, rfl, ?_, ?_, ?_, ?_, ?_, ?_, ?_⟩
              · (first | (focus (simp only [go_sem, ↓reduceIte, simprocAttr, t0]; first | done | rfl)) | rfl)
              · (first | (focus (simp only [go_sem, ↓reduceIte, simprocAttr, t1]; first | done | rfl)) | rfl)
              · (first | (focus (simp only [go_sem, ↓reduceIte, simprocAttr, t2]; first | done | rfl)) | rfl)
              · (first | (focus (simp only [go_sem, ↓reduceIte, simprocAttr, t3]; first | done | rfl)) | rfl)
              · (first | (focus (simp only [go_sem, ↓reduceIte, simprocAttr, t11]; first | done | rfl)) | rfl)
              · (first | (focus (simp only [go_sem, ↓reduceIte, simprocAttr, t10]; first | done | rfl)) | rfl)
              · (first | (focus (simp only [go_sem, ↓reduceIte, simprocAttr, t12]; first | done | rfl)) | rfl)
      rintro e T J ⟨he, hJ, t0, t1, t2, t3, t11, t10, t12⟩
      rw [hJ]
      clear hJ J
      by_cases hcd : dueB t wt h = true ∧ h.bytes ≤ rm
      · rw [if_pos hcd] at he
        subst he
        simp only [thenQ]
        have hbs : bstep t wt (rm, ok) h = (rm - h.bytes, ok ++ [h.r.id]) := by unfold bstep; rw [if_pos hcd]
        rw [hbs] at hsc
        have ww : IntKind.i64.wrap (rm - h.bytes) = rm - h.bytes := by
          have hbp : 1 ≤ h.bytes := by
            simp only [Item.ok] at hok
            unfold Hd.bytes; split <;> omega
          exact w64 (by omega) (by omega)
        have hnx := hI.next hql hol hqo hv hnv hvt (i := i) { h with sent := t } h.r.id (k := (K3.set o (.cells (hds (v.set i { h with sent := t })) 53)).length) (m := (ints ok).length + 1) (List.length_set ..) (by rw [ints_len])
        have hse := hds_set v i { h with sent := t }
        simp only [Hd.cs] at hse
        have hxo : x ≠ o := by omega
        have h12b := (heldO (Ne.symm hxo) h12).1 (.cells (hds (v.set i { h with sent := t })) 53)
        have hOR : OwnR H.length 2 1 8 (K3.set o (.cells (hds (v.set i { h with sent := t })) 53)) z (ints ok) := ⟨(hI.ot.low hol _).own, ints_one _, by rw [ints_len]; omega⟩
        repeat' (first | refine spD (fun _ => ?_) (fun _ => ?_) | refine spF (fun _ => ?_) (fun _ => ?_) | (apply gT; (exact rfl)) | (apply off; (exact rfl); (exact rfl)) | (apply condT; (exact rfl)) | (apply condF; (exact rfl)) | ((first | (apply stp0; (exact rfl); (exact rfl)) | (apply stpN0; (exact rfl)) | apply gT | apply condT | ((first | apply bodyQ_d0 | apply bodyQ_d1 | apply bodyQ_d2 | apply bodyQ_d3 | apply bodyQ_d4); (exact .inr rfl); (rw [Try.results32]))); (first | (focus (simp only [go_sem, ↓reduceIte, simprocAttr, t0, t1, t2, t3, t11, t10, t12, h12, hqK, hv, hvl, hvi, hlt, Nat.zero_add, ww, hsu, hse, h12b] <;> rfl)) | exact rfl); (first | (fail_if_success (show okD _ _ _ _ _ _ _ _ _)) | (first | exact okT | exact okN | exact okE rfl)); (first | (fail_if_success (show Bel _ _)) | (focus first | exact .val _ | (simp [oneOf, Bel_iff_tup, Bel_iff_agg, Bel_iff_rsl, Bel_iff_fn, Bel_iff_rptr, Bel_val]; done)))) | (apply stpApp; (exact rfl); (first | exact hOR); (iterate 2 (first | (focus (simp only [go_sem, ↓reduceIte, simprocAttr, t0, t1, t2, t3, t11, t10, t12, h12, hqK, hv, hvl, hvi, hlt, Nat.zero_add, ww, hsu, hse, h12b] <;> rfl)) | rfl)); (first | rfl | (simp [AV.isCell]; done)); (first | rfl | (simp; done)); (first | exact ap39 | exact ap44 | exact ap46 | exact ap61 | exact ap63 | exact ap75 | exact ap86 | exact ap101 | exact ap102); (first | exact okT | exact okN | exact okE rfl)) | (apply calTo0; (exact rfl); (iterate 2 (simp only [go_sem, ↓reduceIte, simprocAttr, t0, t1, t2, t3, t11, t10, t12, h12, hqK, hv, hvl, hvi, hlt, Nat.zero_add, ww, hsu, hse, h12b]; rfl)); (first | exact hby _); (first | exact okT | exact okN | exact okE rfl)) | refine thenQ_n ?_ | refine thenQ_r ?_ | refine thenQ_e ?_ | refine blockQ_n ?_ | refine blockQ_r ?_ | refine blockQ_e ?_ | (apply blockQ_o; (exact rfl)) | refine Awp.seq ?_ | refine Awp.skip ?_ | refine Awp.block ?_ | refine reg (fun s => s == 12) ?_ | (apply drwE mixed (fun s => s == 12); (kernel_rfl)) | refine fin ?_ | refine Awp.ret ?_ | refine Awp.exit ?_ | ((first | (apply off; (exact rfl)) | apply condF); (first | (focus (simp only [go_sem, ↓reduceIte, simprocAttr, t0, t1, t2, t3, t11, t10, t12, h12, hqK, hv, hvl, hvi, hlt, Nat.zero_add, ww, hsu, hse, h12b] <;> rfl)) | exact rfl)))
        all_goals first | contradiction | (exfalso; omega) | skip
        refine ⟨i + 1, ⟨hlt, ⟨?_, ?_, ?_, ?_⟩, ?_, .msl (K3.set o (.cells (hds (v.set i { h with sent := t })) 53)).length 0 ((ints ok).length + 1), ?_, ?_⟩, Nat.sub_lt_sub_left hlt (Nat.lt_succ_self i)⟩
        · (first | (focus (simp only [go_sem, ↓reduceIte, simprocAttr, t0]; first | done | rfl)) | rfl)
        · (first | (focus (simp only [go_sem, ↓reduceIte, simprocAttr, t2]; first | done | rfl)) | rfl)
        · (first | (focus (simp only [go_sem, ↓reduceIte, simprocAttr, t3]; first | done | rfl)) | rfl)
        · (first | (focus (simp only [go_sem, ↓reduceIte, simprocAttr, hsu]; first | done | rfl)) | rfl)
        · rw [hsc]; (first | (focus (simp only [go_sem, ↓reduceIte, simprocAttr, ww]; first | done | rfl)) | rfl)
        · (first | (focus (simp only [go_sem, ↓reduceIte, simprocAttr]; first | done | rfl)) | rfl)
        · rw [hsc]; show QI H _ q o n c t (L.map (mkS t (ok ++ [h.r.id]))) _ (ok ++ [h.r.id]); rw [← hset]; first | (simp only [go_sem, ↓reduceIte, simprocAttr]; exact hnx) | exact hnx
      · rw [if_neg hcd] at he
        subst he
        have hbs : bstep t wt (rm, ok) h = (rm, ok) := by unfold bstep; rw [if_neg (fun k => hcd k)]
        rw [hbs] at hsc
        simp only [thenQ]
        repeat' (first | refine spD (fun _ => ?_) (fun _ => ?_) | refine spF (fun _ => ?_) (fun _ => ?_) | (apply gT; (exact rfl)) | (apply off; (exact rfl); (exact rfl)) | (apply condT; (exact rfl)) | (apply condF; (exact rfl)) | ((first | (apply stp0; (exact rfl); (exact rfl)) | (apply stpN0; (exact rfl)) | apply gT | apply condT | ((first | apply bodyQ_d0 | apply bodyQ_d1 | apply bodyQ_d2 | apply bodyQ_d3 | apply bodyQ_d4); (exact .inr rfl); (rw [Try.results32]))); (first | (focus (simp only [go_sem, ↓reduceIte, simprocAttr, t11, hsu] <;> rfl)) | exact rfl); (first | (fail_if_success (show okD _ _ _ _ _ _ _ _ _)) | (first | exact okT | exact okN | exact okE rfl)); (first | (fail_if_success (show Bel _ _)) | (focus first | exact .val _ | (simp [oneOf, Bel_iff_tup, Bel_iff_agg, Bel_iff_rsl, Bel_iff_fn, Bel_iff_rptr, Bel_val]; done)))) | refine thenQ_n ?_ | refine thenQ_r ?_ | refine thenQ_e ?_ | refine blockQ_n ?_ | refine blockQ_r ?_ | refine blockQ_e ?_ | (apply blockQ_o; (exact rfl)) | refine Awp.seq ?_ | refine Awp.skip ?_ | refine Awp.block ?_ | refine reg (fun s => s == 12) ?_ | (apply drwE mixed (fun s => s == 12); (kernel_rfl)) | refine fin ?_ | refine Awp.ret ?_ | refine Awp.exit ?_ | ((first | (apply off; (exact rfl)) | apply condF); (first | (focus (simp only [go_sem, ↓reduceIte, simprocAttr, t11, hsu] <;> rfl)) | exact rfl)))
        all_goals first | contradiction | (exfalso; omega) | skip
        refine ⟨i + 1, ⟨hlt, ⟨?_, ?_, ?_, ?_⟩, ?_, z, ?_, ?_⟩, Nat.sub_lt_sub_left hlt (Nat.lt_succ_self i)⟩
        · (first | (focus (simp only [go_sem, ↓reduceIte, simprocAttr, t0]; first | done | rfl)) | rfl)
        · (first | (focus (simp only [go_sem, ↓reduceIte, simprocAttr, t2]; first | done | rfl)) | rfl)
        · (first | (focus (simp only [go_sem, ↓reduceIte, simprocAttr, t3]; first | done | rfl)) | rfl)
        · (first | (focus (simp only [go_sem, ↓reduceIte, simprocAttr, hsu]; first | done | rfl)) | rfl)
        · rw [hsc]; (first | (focus (simp only [go_sem, ↓reduceIte, simprocAttr, t1]; first | done | rfl)) | rfl)
        · (first | (focus (simp only [go_sem, ↓reduceIte, simprocAttr, t10]; first | done | rfl)) | rfl)
        · rw [hsc]; first | (simp only [go_sem, ↓reduceIte, simprocAttr, t10]; exact hI) | exact hI
    · have hie : i = n := Nat.le_antisymm hi (Nat.not_lt.1 hlt)
      subst hie
      rw [List.take_of_length_le (by omega)] at hI
      repeat' (first | refine spD (fun _ => ?_) (fun _ => ?_) | refine spF (fun _ => ?_) (fun _ => ?_) | (apply gT; (exact rfl)) | (apply off; (exact rfl); (exact rfl)) | (apply condT; (exact rfl)) | (apply condF; (exact rfl)) | ((first | (apply stp0; (exact rfl); (exact rfl)) | (apply stpN0; (exact rfl)) | apply gT | apply condT); (first | (focus (simp only [go_sem, ↓reduceIte, simprocAttr, Int.lt_irrefl, t0, t11, t10, hqK] <;> rfl)) | exact rfl); (first | (fail_if_success (show okD _ _ _ _ _ _ _ _ _)) | (first | exact okT | exact okN | exact okE rfl))) | refine thenQ_n ?_ | refine thenQ_r ?_ | refine thenQ_e ?_ | refine blockQ_n ?_ | refine blockQ_r ?_ | refine blockQ_e ?_ | (apply blockQ_o; (exact rfl)) | refine Awp.seq ?_ | refine Awp.skip ?_ | refine Awp.block ?_ | refine reg (fun s => s == 12) ?_ | (apply drwE mixed (fun s => s == 12); (kernel_rfl)) | refine fin ?_ | refine Awp.ret ?_ | refine Awp.exit ?_ | ((first | (apply off; (exact rfl)) | apply condF); (first | (focus (simp only [go_sem, ↓reduceIte, simprocAttr, Int.lt_irrefl, t0, t11, t10, hqK] <;> rfl)) | exact rfl)))
      all_goals first | contradiction | (exfalso; omega) | skip
      obtain ⟨v, hv, hnv, hvt⟩ := hI.row
      exact bodyQ_mk (vs := [z, iv 0]) (.inr rfl) (by rw [Try.results32]; simp only [go_sem, ↓reduceIte, simprocAttr, t10]) (Vs.refl _ _ _) ⟨z, rfl, hI.ot, ⟨hI.hb, by rw [← hvt]; exact .row hv hnv⟩, hI.len, fun j hj a b => hI.old j hj a (fun e => by subst e; exact b _ rfl)⟩

end Go.Proofs.Ytlhchnnfgppneaa.Ab
