/- The program's Has. The program's Ack, its closure. The reference's Ack, whatever the set's functions say. Regions whose operations are told one by one; a slice from its middle; clear. slices.IndexFunc and slices.DeleteFunc over numbers, with a function that turns the heap. slices.DeleteFunc over numbers, with a function that turns the heap. -/
import Derived.Test.YtlhchnnfgppneaaYM
import Derived.Test.YtlhchnnfgppneaaYK
import Derived.Test.YtlhchnnfgppneaaYF
import Derived.Test.YtlhchnnfgppneaaYG
namespace Go.Proofs.Ytlhchnnfgppneaa.Ab
open Go Go.RowKit Go.Proofs
set_option linter.unusedSimpArgs false
set_option linter.unusedVariables false
attribute [local irreducible] Awp wpO thenQ blockQ bodyQ ACalls stepA

def idxS (p : Int × Int → Bool) : Nat → List (Int × Int) → Int
  | _, [] => -1
  | i, a :: l => if p a = true then i else idxS p (i + 1) l
theorem idxS_drop {p : Int × Int → Bool} {v : List (Int × Int)} {i : Nat} {a : Int × Int} (h : v[i]? = some a) : idxS p i (v.drop i) = if p a = true then (i : Int) else idxS p (i + 1) (v.drop (i + 1)) := by
  have hlt := (List.getElem?_eq_some_iff.1 h).1
  rw [List.drop_eq_getElem_cons hlt, (List.getElem?_eq_some_iff.1 h).2]
  rfl
theorem idxS_ge {p : Int × Int → Bool} : ∀ (v : List (Int × Int)) (i : Nat), (0 ≤ idxS p i v) ↔ v.any p = true
  | [], i => by simp [idxS]
  | a :: l, i => by
    unfold idxS
    by_cases h : p a = true
    · rw [if_pos h]; simp [h]
    · rw [if_neg h, idxS_ge l (i + 1)]; simp [h]
/-- a function that answers of a span -/
def AsksS (H : Hp) (f : FuncId) (cap : List AV) (p : Int × Int → Bool) : Prop := ∀ (x : Int × Int), CallsTo Try.prog f ([.agg [iv x.1, iv x.2]] ++ cap) H (bv (p x)) H

set_option maxRecDepth 8000 in
theorem indexS_ok (H : Hp) (v : List (Int × Int)) (ex : Bool) (hm : v.length ≤ maxLen) {f : FuncId} {cap : List AV} {p : Int × Int → Bool} (hp : AsksS H f cap p) : CallsTo Try.prog 112 [.rsl (sps v) ex, .fn (.func f) cap] H (iv (idxS p 0 v)) H := by
  have hvl := sps_len v
  refine ACalls.of_body Try.func112 rfl (by kernel_rfl) (by rw [Try.ntmps112]; simp) ?_; rw [Try.ntmps112]
  repeat' (first | refine spD (fun _ => ?_) (fun _ => ?_) | refine spF (fun _ => ?_) (fun _ => ?_) | (apply gT; (exact rfl)) | (apply off; (exact rfl); (exact rfl)) | (apply condT; (exact rfl)) | (apply condF; (exact rfl)) | ((first | (apply stp0; (exact rfl); (exact rfl)) | (apply stpN0; (exact rfl)) | apply gT | apply condT | ((first | apply bodyQ_d0 | apply bodyQ_d1 | apply bodyQ_d2 | apply bodyQ_d3 | apply bodyQ_d4); (exact .inr rfl); (rw [Try.results112]))); (first | (focus (simp only [go_sem, ↓reduceIte, simprocAttr, hvl] <;> rfl)) | exact rfl); (first | (fail_if_success (show okD _ _ _ _ _ _ _ _ _)) | (first | exact okT | exact okN | exact okE rfl)); (first | (fail_if_success (show Bel _ _)) | (focus first | exact .val _ | (simp [oneOf, Bel_iff_tup, Bel_iff_agg, Bel_iff_rsl, Bel_iff_fn, Bel_iff_rptr, Bel_val]; done)))) | refine thenQ_n ?_ | refine thenQ_r ?_ | refine thenQ_e ?_ | refine blockQ_n ?_ | refine blockQ_r ?_ | refine blockQ_e ?_ | (apply blockQ_o; (exact rfl)) | refine Awp.seq ?_ | refine Awp.skip ?_ | refine Awp.block ?_ | refine reg (fun s => false) ?_ | (apply drwE mixed (fun s => false); (kernel_rfl)) | refine fin ?_ | refine Awp.ret ?_ | refine Awp.exit ?_ | ((first | (apply off; (exact rfl)) | apply condF); (first | (focus (simp only [go_sem, ↓reduceIte, simprocAttr, hvl] <;> rfl)) | exact rfl)))
  refine Awp.loop (ι := Nat) (fun i T' H' => i ≤ v.length ∧ T' 8 = iv i ∧ T' 7 = iv v.length ∧ T' 0 = .rsl (sps v) ex ∧ T' 1 = .fn (.func f) cap ∧ H' = H ∧ idxS p 0 v = idxS p i (v.drop i)) (fun i => v.length - i) 0 ?_ ?_
  · refine ⟨by simp, ?_, ?_, ?_, ?_, rfl, rfl⟩
    · (first | (focus (simp only [go_sem, ↓reduceIte, simprocAttr]; first | done | rfl)) | rfl)
    · (first | (focus (simp only [go_sem, ↓reduceIte, simprocAttr, hvl]; first | done | rfl)) | rfl)
    · (first | (focus (simp only [go_sem, ↓reduceIte, simprocAttr]; first | done | rfl)) | rfl)
    · (first | (focus (simp only [go_sem, ↓reduceIte, simprocAttr]; first | done | rfl)) | rfl)
  rintro i T H' ⟨hi, h8, h7, h0, h1, hH, hno⟩
  subst hH
  by_cases hlt : i < v.length
  · obtain ⟨a, ha⟩ := nth hlt
    have hac := sps_at ha
    rw [idxS_drop ha] at hno
    have hw := wsucc hlt hm
    cases hpa : p a with
    | true =>
      have hq := hp a
      rw [hpa] at hq hno
      repeat' (first | refine spD (fun _ => ?_) (fun _ => ?_) | refine spF (fun _ => ?_) (fun _ => ?_) | (apply gT; (exact rfl)) | (apply off; (exact rfl); (exact rfl)) | (apply condT; (exact rfl)) | (apply condF; (exact rfl)) | ((first | (apply stp0; (exact rfl); (exact rfl)) | (apply stpN0; (exact rfl)) | apply gT | apply condT | ((first | apply bodyQ_d0 | apply bodyQ_d1 | apply bodyQ_d2 | apply bodyQ_d3 | apply bodyQ_d4); (exact .inr rfl); (rw [Try.results112]))); (first | (focus (simp only [go_sem, ↓reduceIte, simprocAttr, h8, h7, h0, h1, hac, hvl, hw] <;> rfl)) | exact rfl); (first | (fail_if_success (show okD _ _ _ _ _ _ _ _ _)) | (first | exact okT | exact okN | exact okE rfl)); (first | (fail_if_success (show Bel _ _)) | (focus first | exact .val _ | (simp [oneOf, Bel_iff_tup, Bel_iff_agg, Bel_iff_rsl, Bel_iff_fn, Bel_iff_rptr, Bel_val]; done)))) | (apply calTo0; (exact rfl); (iterate 2 (simp only [go_sem, ↓reduceIte, simprocAttr, h8, h7, h0, h1, hac, hvl, hw]; rfl)); (first | exact hq); (first | exact okT | exact okN | exact okE rfl)) | refine thenQ_n ?_ | refine thenQ_r ?_ | refine thenQ_e ?_ | refine blockQ_n ?_ | refine blockQ_r ?_ | refine blockQ_e ?_ | (apply blockQ_o; (exact rfl)) | refine Awp.seq ?_ | refine Awp.skip ?_ | refine Awp.block ?_ | refine reg (fun s => false) ?_ | (apply drwE mixed (fun s => false); (kernel_rfl)) | refine fin ?_ | refine Awp.ret ?_ | refine Awp.exit ?_ | ((first | (apply off; (exact rfl)) | apply condF); (first | (focus (simp only [go_sem, ↓reduceIte, simprocAttr, h8, h7, h0, h1, hac, hvl, hw] <;> rfl)) | exact rfl)))
      all_goals first | (exfalso; omega) | skip
      rw [if_pos rfl] at hno
      rw [hno]; rfl
    | false =>
      have hq := hp a
      rw [hpa] at hq hno
      repeat' (first | refine spD (fun _ => ?_) (fun _ => ?_) | refine spF (fun _ => ?_) (fun _ => ?_) | (apply gT; (exact rfl)) | (apply off; (exact rfl); (exact rfl)) | (apply condT; (exact rfl)) | (apply condF; (exact rfl)) | ((first | (apply stp0; (exact rfl); (exact rfl)) | (apply stpN0; (exact rfl)) | apply gT | apply condT | ((first | apply bodyQ_d0 | apply bodyQ_d1 | apply bodyQ_d2 | apply bodyQ_d3 | apply bodyQ_d4); (exact .inr rfl); (rw [Try.results112]))); (first | (focus (simp only [go_sem, ↓reduceIte, simprocAttr, h8, h7, h0, h1, hac, hvl, hw] <;> rfl)) | exact rfl); (first | (fail_if_success (show okD _ _ _ _ _ _ _ _ _)) | (first | exact okT | exact okN | exact okE rfl)); (first | (fail_if_success (show Bel _ _)) | (focus first | exact .val _ | (simp [oneOf, Bel_iff_tup, Bel_iff_agg, Bel_iff_rsl, Bel_iff_fn, Bel_iff_rptr, Bel_val]; done)))) | (apply calTo0; (exact rfl); (iterate 2 (simp only [go_sem, ↓reduceIte, simprocAttr, h8, h7, h0, h1, hac, hvl, hw]; rfl)); (first | exact hq); (first | exact okT | exact okN | exact okE rfl)) | refine thenQ_n ?_ | refine thenQ_r ?_ | refine thenQ_e ?_ | refine blockQ_n ?_ | refine blockQ_r ?_ | refine blockQ_e ?_ | (apply blockQ_o; (exact rfl)) | refine Awp.seq ?_ | refine Awp.skip ?_ | refine Awp.block ?_ | refine reg (fun s => false) ?_ | (apply drwE mixed (fun s => false); (kernel_rfl)) | refine fin ?_ | refine Awp.ret ?_ | refine Awp.exit ?_ | ((first | (apply off; (exact rfl)) | apply condF); (first | (focus (simp only [go_sem, ↓reduceIte, simprocAttr, h8, h7, h0, h1, hac, hvl, hw] <;> rfl)) | exact rfl)))
      all_goals first | (exfalso; omega) | skip
      rw [if_neg (by simp)] at hno
      refine ⟨i + 1, ⟨by omega, ?_, ?_, ?_, ?_, rfl, hno⟩, by omega⟩
      · (first | (focus (simp only [go_sem, ↓reduceIte, simprocAttr, hw]; first | done | rfl)) | rfl)
      · (first | (focus (simp only [go_sem, ↓reduceIte, simprocAttr, h7]; first | done | rfl)) | rfl)
      · (first | (focus (simp only [go_sem, ↓reduceIte, simprocAttr, h0]; first | done | rfl)) | rfl)
      · (first | (focus (simp only [go_sem, ↓reduceIte, simprocAttr, h1]; first | done | rfl)) | rfl)
  · repeat' ((fail_if_success (apply stopR (id := 3))); (fail_if_success (apply stopS (id := 3))); first | refine spD (fun _ => ?_) (fun _ => ?_) | refine spF (fun _ => ?_) (fun _ => ?_) | (apply gT; (exact rfl)) | (apply off; (exact rfl); (exact rfl)) | (apply condT; (exact rfl)) | (apply condF; (exact rfl)) | ((first | (apply stp0; (exact rfl); (exact rfl)) | (apply stpN0; (exact rfl)) | apply gT | apply condT | ((first | apply bodyQ_d0 | apply bodyQ_d1 | apply bodyQ_d2 | apply bodyQ_d3 | apply bodyQ_d4); (exact .inr rfl); (rw [Try.results112]))); (first | (focus (simp only [go_sem, ↓reduceIte, simprocAttr, h8, h7, h0, h1, hvl] <;> rfl)) | exact rfl); (first | (fail_if_success (show okD _ _ _ _ _ _ _ _ _)) | (first | exact okT | exact okN | exact okE rfl)); (first | (fail_if_success (show Bel _ _)) | (focus first | exact .val _ | (simp [oneOf, Bel_iff_tup, Bel_iff_agg, Bel_iff_rsl, Bel_iff_fn, Bel_iff_rptr, Bel_val]; done)))) | refine thenQ_n ?_ | refine thenQ_r ?_ | refine thenQ_e ?_ | refine blockQ_n ?_ | refine blockQ_r ?_ | refine blockQ_e ?_ | (apply blockQ_o; (exact rfl)) | refine Awp.seq ?_ | refine Awp.skip ?_ | refine Awp.block ?_ | refine reg (fun s => false) ?_ | (apply drwE mixed (fun s => false); (kernel_rfl)) | refine fin ?_ | refine Awp.ret ?_ | refine Awp.exit ?_ | ((first | (apply off; (exact rfl)) | apply condF); (first | (focus (simp only [go_sem, ↓reduceIte, simprocAttr, h8, h7, h0, h1, hvl] <;> rfl)) | exact rfl)))
    all_goals first | (exfalso; omega) | skip
    rw [hno, List.drop_of_length_le (by omega)]; rfl

theorem containsS_ok (H : Hp) (v : List (Int × Int)) (ex : Bool) (hm : v.length ≤ maxLen) {f : FuncId} {cap : List AV} {p : Int × Int → Bool} (hp : AsksS H f cap p) : CallsTo Try.prog 90 [.rsl (sps v) ex, .fn (.func f) cap] H (bv (v.any p)) H := by
  have hg := idxS_ge (p := p) v 0
  have he : v.any p = decide (idxS p 0 v ≥ 0) := by
    show _ = decide (0 ≤ idxS p 0 v)
    cases h : v.any p with
    | true => rw [decide_eq_true (hg.2 h)]
    | false => rw [decide_eq_false (fun k => by rw [hg.1 k] at h; cases h)]
  rw [he]
  refine ACalls.of_body Try.func90 rfl (by kernel_rfl) (by rw [Try.ntmps90]; simp) ?_; rw [Try.ntmps90]
  repeat' (first | refine spD (fun _ => ?_) (fun _ => ?_) | refine spF (fun _ => ?_) (fun _ => ?_) | (apply gT; (exact rfl)) | (apply off; (exact rfl); (exact rfl)) | (apply condT; (exact rfl)) | (apply condF; (exact rfl)) | ((first | (apply stp0; (exact rfl); (exact rfl)) | (apply stpN0; (exact rfl)) | apply gT | apply condT | ((first | apply bodyQ_d0 | apply bodyQ_d1 | apply bodyQ_d2 | apply bodyQ_d3 | apply bodyQ_d4); (exact .inr rfl); (rw [Try.results90]))); (first | (focus (simp only [go_sem, ↓reduceIte, simprocAttr] <;> rfl)) | exact rfl); (first | (fail_if_success (show okD _ _ _ _ _ _ _ _ _)) | (first | exact okT | exact okN | exact okE rfl)); (first | (fail_if_success (show Bel _ _)) | (focus first | exact .val _ | (simp [oneOf, Bel_iff_tup, Bel_iff_agg, Bel_iff_rsl, Bel_iff_fn, Bel_iff_rptr, Bel_val]; done)))) | (apply calTo0; (exact rfl); (iterate 2 (simp only [go_sem, ↓reduceIte, simprocAttr]; rfl)); (first | exact indexS_ok _ v ex hm hp); (first | exact okT | exact okN | exact okE rfl)) | refine thenQ_n ?_ | refine thenQ_r ?_ | refine thenQ_e ?_ | refine blockQ_n ?_ | refine blockQ_r ?_ | refine blockQ_e ?_ | (apply blockQ_o; (exact rfl)) | refine Awp.seq ?_ | refine Awp.skip ?_ | refine Awp.block ?_ | refine reg (fun s => false) ?_ | (apply drwE mixed (fun s => false); (kernel_rfl)) | refine fin ?_ | refine Awp.ret ?_ | refine Awp.exit ?_ | ((first | (apply off; (exact rfl)) | apply condF); (first | (focus (simp only [go_sem, ↓reduceIte, simprocAttr] <;> rfl)) | exact rfl)))
  all_goals first
    | (rename_i h; rw [decide_eq_true h]; rfl)
    | (rename_i h; rw [decide_eq_false h]; rfl)

set_option maxRecDepth 8000 in
theorem has91 (H : Hp) (x : Int) : AsksS H 91 [.rptr [iv x] 0] (fun p => wthB x p.1 p.2) := by
  intro p
  show CallsTo Try.prog 91 [.agg [iv p.1, iv p.2], .rptr [iv x] 0] H (bv (wthB x p.1 p.2)) H
  unfold wthB
  by_cases h1 : p.1 ≤ x
  · by_cases h2 : x ≤ p.2
    · rw [decide_eq_true h1, decide_eq_true h2]
      refine ACalls.of_body Try.func91 rfl (by kernel_rfl) (by rw [Try.ntmps91]; simp) ?_; rw [Try.ntmps91]
      repeat' (first | refine spD (fun _ => ?_) (fun _ => ?_) | refine spF (fun _ => ?_) (fun _ => ?_) | (apply gT; (exact rfl)) | (apply off; (exact rfl); (exact rfl)) | (apply condT; (exact rfl)) | (apply condF; (exact rfl)) | ((first | (apply stp0; (exact rfl); (exact rfl)) | (apply stpN0; (exact rfl)) | apply gT | apply condT | ((first | apply bodyQ_d0 | apply bodyQ_d1 | apply bodyQ_d2 | apply bodyQ_d3 | apply bodyQ_d4); (exact .inr rfl); (rw [Try.results91]))); (first | (focus (simp only [go_sem, ↓reduceIte, simprocAttr, h1, h2] <;> rfl)) | exact rfl); (first | (fail_if_success (show okD _ _ _ _ _ _ _ _ _)) | (first | exact okT | exact okN | exact okE rfl)); (first | (fail_if_success (show Bel _ _)) | (focus first | exact .val _ | (simp [oneOf, Bel_iff_tup, Bel_iff_agg, Bel_iff_rsl, Bel_iff_fn, Bel_iff_rptr, Bel_val]; done)))) | refine thenQ_n ?_ | refine thenQ_r ?_ | refine thenQ_e ?_ | refine blockQ_n ?_ | refine blockQ_r ?_ | refine blockQ_e ?_ | (apply blockQ_o; (exact rfl)) | refine Awp.seq ?_ | refine Awp.skip ?_ | refine Awp.block ?_ | refine reg (fun s => false) ?_ | (apply drwE mixed (fun s => false); (kernel_rfl)) | refine fin ?_ | refine Awp.ret ?_ | refine Awp.exit ?_ | ((first | (apply off; (exact rfl)) | apply condF); (first | (focus (simp only [go_sem, ↓reduceIte, simprocAttr, h1, h2] <;> rfl)) | exact rfl)))
      all_goals first | contradiction | (exfalso; omega) | rfl | skip
    · rw [decide_eq_true h1, decide_eq_false h2]
      refine ACalls.of_body Try.func91 rfl (by kernel_rfl) (by rw [Try.ntmps91]; simp) ?_; rw [Try.ntmps91]
      repeat' (first | refine spD (fun _ => ?_) (fun _ => ?_) | refine spF (fun _ => ?_) (fun _ => ?_) | (apply gT; (exact rfl)) | (apply off; (exact rfl); (exact rfl)) | (apply condT; (exact rfl)) | (apply condF; (exact rfl)) | ((first | (apply stp0; (exact rfl); (exact rfl)) | (apply stpN0; (exact rfl)) | apply gT | apply condT | ((first | apply bodyQ_d0 | apply bodyQ_d1 | apply bodyQ_d2 | apply bodyQ_d3 | apply bodyQ_d4); (exact .inr rfl); (rw [Try.results91]))); (first | (focus (simp only [go_sem, ↓reduceIte, simprocAttr, h1, h2] <;> rfl)) | exact rfl); (first | (fail_if_success (show okD _ _ _ _ _ _ _ _ _)) | (first | exact okT | exact okN | exact okE rfl)); (first | (fail_if_success (show Bel _ _)) | (focus first | exact .val _ | (simp [oneOf, Bel_iff_tup, Bel_iff_agg, Bel_iff_rsl, Bel_iff_fn, Bel_iff_rptr, Bel_val]; done)))) | refine thenQ_n ?_ | refine thenQ_r ?_ | refine thenQ_e ?_ | refine blockQ_n ?_ | refine blockQ_r ?_ | refine blockQ_e ?_ | (apply blockQ_o; (exact rfl)) | refine Awp.seq ?_ | refine Awp.skip ?_ | refine Awp.block ?_ | refine reg (fun s => false) ?_ | (apply drwE mixed (fun s => false); (kernel_rfl)) | refine fin ?_ | refine Awp.ret ?_ | refine Awp.exit ?_ | ((first | (apply off; (exact rfl)) | apply condF); (first | (focus (simp only [go_sem, ↓reduceIte, simprocAttr, h1, h2] <;> rfl)) | exact rfl)))
      all_goals first | contradiction | (exfalso; omega) | rfl | skip
  · rw [decide_eq_false h1, Bool.false_and]
    refine ACalls.of_body Try.func91 rfl (by kernel_rfl) (by rw [Try.ntmps91]; simp) ?_; rw [Try.ntmps91]
    repeat' (first | refine spD (fun _ => ?_) (fun _ => ?_) | refine spF (fun _ => ?_) (fun _ => ?_) | (apply gT; (exact rfl)) | (apply off; (exact rfl); (exact rfl)) | (apply condT; (exact rfl)) | (apply condF; (exact rfl)) | ((first | (apply stp0; (exact rfl); (exact rfl)) | (apply stpN0; (exact rfl)) | apply gT | apply condT | ((first | apply bodyQ_d0 | apply bodyQ_d1 | apply bodyQ_d2 | apply bodyQ_d3 | apply bodyQ_d4); (exact .inr rfl); (rw [Try.results91]))); (first | (focus (simp only [go_sem, ↓reduceIte, simprocAttr, h1] <;> rfl)) | exact rfl); (first | (fail_if_success (show okD _ _ _ _ _ _ _ _ _)) | (first | exact okT | exact okN | exact okE rfl)); (first | (fail_if_success (show Bel _ _)) | (focus first | exact .val _ | (simp [oneOf, Bel_iff_tup, Bel_iff_agg, Bel_iff_rsl, Bel_iff_fn, Bel_iff_rptr, Bel_val]; done)))) | refine thenQ_n ?_ | refine thenQ_r ?_ | refine thenQ_e ?_ | refine blockQ_n ?_ | refine blockQ_r ?_ | refine blockQ_e ?_ | (apply blockQ_o; (exact rfl)) | refine Awp.seq ?_ | refine Awp.skip ?_ | refine Awp.block ?_ | refine reg (fun s => false) ?_ | (apply drwE mixed (fun s => false); (kernel_rfl)) | refine fin ?_ | refine Awp.ret ?_ | refine Awp.exit ?_ | ((first | (apply off; (exact rfl)) | apply condF); (first | (focus (simp only [go_sem, ↓reduceIte, simprocAttr, h1] <;> rfl)) | exact rfl)))
    all_goals first | contradiction | (exfalso; omega) | rfl | skip

set_option maxRecDepth 8000 in
theorem bhas_ok (H : Hp) (s : List (Int × Int)) (ex : Bool) (hc : setC s = 0) (hm : s.length ≤ maxLen) (x : Int) : CallsTo Try.prog 50 [.rsl (sps s) ex, iv x] H (.tup [bv (isInB s x), iv 0]) H := by
  have hk := fun H => bcheckSet_ok H s ex
  rw [hc] at hk
  have hs := fun H => containsS_ok H s ex hm (has91 H x)
  unfold isInB
  refine ACalls.of_body Try.func50 rfl (by kernel_rfl) (by rw [Try.ntmps50]; simp) ?_; rw [Try.ntmps50]
  repeat' (first | refine spD (fun _ => ?_) (fun _ => ?_) | refine spF (fun _ => ?_) (fun _ => ?_) | (apply gT; (exact rfl)) | (apply off; (exact rfl); (exact rfl)) | (apply condT; (exact rfl)) | (apply condF; (exact rfl)) | ((first | (apply stp0; (exact rfl); (exact rfl)) | (apply stpN0; (exact rfl)) | apply gT | apply condT | ((first | apply bodyQ_d0 | apply bodyQ_d1 | apply bodyQ_d2 | apply bodyQ_d3 | apply bodyQ_d4); (exact .inr rfl); (rw [Try.results50]))); (first | (focus (simp only [go_sem, ↓reduceIte, simprocAttr] <;> rfl)) | exact rfl); (first | (fail_if_success (show okD _ _ _ _ _ _ _ _ _)) | (first | exact okT | exact okN | exact okE rfl)); (first | (fail_if_success (show Bel _ _)) | (focus first | exact .val _ | (simp [oneOf, Bel_iff_tup, Bel_iff_agg, Bel_iff_rsl, Bel_iff_fn, Bel_iff_rptr, Bel_val]; done)))) | (apply calTo0; (exact rfl); (iterate 2 (simp only [go_sem, ↓reduceIte, simprocAttr]; rfl)); (first | exact hk _ | exact hs _); (first | exact okT | exact okN | exact okE rfl)) | refine thenQ_n ?_ | refine thenQ_r ?_ | refine thenQ_e ?_ | refine blockQ_n ?_ | refine blockQ_r ?_ | refine blockQ_e ?_ | (apply blockQ_o; (exact rfl)) | refine Awp.seq ?_ | refine Awp.skip ?_ | refine Awp.block ?_ | refine reg (fun s => false) ?_ | (apply drwE mixed (fun s => false); (kernel_rfl)) | refine fin ?_ | refine Awp.ret ?_ | refine Awp.exit ?_ | ((first | (apply off; (exact rfl)) | apply condF); (first | (focus (simp only [go_sem, ↓reduceIte, simprocAttr] <;> rfl)) | exact rfl)))
  all_goals first | contradiction | (exfalso; omega) | rfl | skip

end Go.Proofs.Ytlhchnnfgppneaa.Ab
namespace Go.Proofs.Ytlhchnnfgppneaa.Ab
open Go Go.RowKit Go.Proofs
set_option linter.unusedSimpArgs false
set_option linter.unusedVariables false
attribute [local irreducible] Awp wpO thenQ blockQ bodyQ ACalls stepA

set_option maxRecDepth 8000 in
theorem ack1_ok {H : Hp} {F : Ft} {w : Rw} (hR : RepW H F w) (s : List (Int × Int)) (ex : Bool) (hc : setC s = 0) (hm : s.length ≤ maxLen) (id : Int) (r : Item) (sm : Int) (h1 : (getM w.kr id).getD recZ = .agg r.cs) (h2 : (getM w.ks id).getD (iv 0) = iv sm)
    (hu : -1099511627776 ≤ w.used - (if sm > 0 then r.pk else r.size) ∧ w.used - (if sm > 0 then r.pk else r.size) ≤ 1099511627776) :
    ACalls Try.prog 67 [iv id, .rptr [.rsl (sps s) ex] 0, .rptr [.mptr F.b 0 0] 0] H fun v1 H1 => v1 = bv (isInB s id) ∧ (isInB s id = true → RepW H1 F { w with used := w.used - (if sm > 0 then r.pk else r.size), kr := delM id w.kr, ks := delM id w.ks, kt := delM id w.kt } ∧ Fr F H H1) ∧ (isInB s id = false → H1 = H) := by
  have hh := fun H => bhas_ok H s ex hc hm id
  have hrm := remove_ok hR id r sm h1 h2 hu
  cases e : isInB s id with
  | true =>
    rw [e] at hh
    refine ACalls.of_body Try.func67 rfl (by kernel_rfl) (by rw [Try.ntmps67]; simp) ?_; rw [Try.ntmps67]
    repeat' (first | refine spD (fun _ => ?_) (fun _ => ?_) | refine spF (fun _ => ?_) (fun _ => ?_) | (apply gT; (exact rfl)) | (apply off; (exact rfl); (exact rfl)) | (apply condT; (exact rfl)) | (apply condF; (exact rfl)) | ((first | (apply stp0; (exact rfl); (exact rfl)) | (apply stpN0; (exact rfl)) | apply gT | apply condT | ((first | apply bodyQ_d0 | apply bodyQ_d1 | apply bodyQ_d2 | apply bodyQ_d3 | apply bodyQ_d4); (exact .inr rfl); (rw [Try.results67]))); (first | (focus (simp only [go_sem, ↓reduceIte, simprocAttr] <;> rfl)) | exact rfl); (first | (fail_if_success (show okD _ _ _ _ _ _ _ _ _)) | (first | exact okT | exact okN | exact okE rfl)); (first | (fail_if_success (show Bel _ _)) | (focus first | exact .val _ | (simp [oneOf, Bel_iff_tup, Bel_iff_agg, Bel_iff_rsl, Bel_iff_fn, Bel_iff_rptr, Bel_val]; done)))) | (apply calTo0; (exact rfl); (iterate 2 (simp only [go_sem, ↓reduceIte, simprocAttr]; rfl)); (first | exact hh _); (first | exact okT | exact okN | exact okE rfl)) | refine thenQ_n ?_ | refine thenQ_r ?_ | refine thenQ_e ?_ | refine blockQ_n ?_ | refine blockQ_r ?_ | refine blockQ_e ?_ | (apply blockQ_o; (exact rfl)) | refine Awp.seq ?_ | refine Awp.skip ?_ | refine Awp.block ?_ | refine reg (fun s => false) ?_ | (apply drwE mixed (fun s => false); (kernel_rfl)) | refine fin ?_ | refine Awp.ret ?_ | refine Awp.exit ?_ | ((first | (apply off; (exact rfl)) | apply condF); (first | (focus (simp only [go_sem, ↓reduceIte, simprocAttr] <;> rfl)) | exact rfl)))
    all_goals first | contradiction | (exfalso; omega) | skip
    refine cal rfl rfl rfl ?_ (show ACallV Try.prog (.fn (.func 61) []) [.mptr F.b 0 0, iv id] H _ from hrm) ?_
    · (first | (focus (simp only [go_sem, ↓reduceIte, simprocAttr]; first | done | rfl)) | rfl)
    rintro v1 K ⟨rfl, hR2, hF⟩
    repeat' (first | refine spD (fun _ => ?_) (fun _ => ?_) | refine spF (fun _ => ?_) (fun _ => ?_) | (apply gT; (exact rfl)) | (apply off; (exact rfl); (exact rfl)) | (apply condT; (exact rfl)) | (apply condF; (exact rfl)) | ((first | (apply stp0; (exact rfl); (exact rfl)) | (apply stpN0; (exact rfl)) | apply gT | apply condT); (first | (focus (simp only [go_sem, ↓reduceIte, simprocAttr] <;> rfl)) | exact rfl); (first | (fail_if_success (show okD _ _ _ _ _ _ _ _ _)) | (first | exact okT | exact okN | exact okE rfl))) | refine thenQ_n ?_ | refine thenQ_r ?_ | refine thenQ_e ?_ | refine blockQ_n ?_ | refine blockQ_r ?_ | refine blockQ_e ?_ | (apply blockQ_o; (exact rfl)) | refine Awp.seq ?_ | refine Awp.skip ?_ | refine Awp.block ?_ | refine reg (fun s => false) ?_ | (apply drwE mixed (fun s => false); (kernel_rfl)) | refine fin ?_ | refine Awp.ret ?_ | refine Awp.exit ?_ | ((first | (apply off; (exact rfl)) | apply condF); (first | (focus (simp only [go_sem, ↓reduceIte, simprocAttr] <;> rfl)) | exact rfl)))
    all_goals first | contradiction | (exfalso; omega) | skip
    exact bodyQ_mk (vs := [bv true]) (.inr rfl) (by rw [Try.results67]; simp only [go_sem, ↓reduceIte, simprocAttr]) (Vs.refl _ _ _) ⟨rfl, fun _ => ⟨hR2, hF⟩, (fun h => by cases h)⟩
  | false =>
    rw [e] at hh
    refine ACalls.of_body Try.func67 rfl (by kernel_rfl) (by rw [Try.ntmps67]; simp) ?_; rw [Try.ntmps67]
    repeat' (first | refine spD (fun _ => ?_) (fun _ => ?_) | refine spF (fun _ => ?_) (fun _ => ?_) | (apply gT; (exact rfl)) | (apply off; (exact rfl); (exact rfl)) | (apply condT; (exact rfl)) | (apply condF; (exact rfl)) | ((first | (apply stp0; (exact rfl); (exact rfl)) | (apply stpN0; (exact rfl)) | apply gT | apply condT); (first | (focus (simp only [go_sem, ↓reduceIte, simprocAttr] <;> rfl)) | exact rfl); (first | (fail_if_success (show okD _ _ _ _ _ _ _ _ _)) | (first | exact okT | exact okN | exact okE rfl))) | (apply calTo0; (exact rfl); (iterate 2 (simp only [go_sem, ↓reduceIte, simprocAttr]; rfl)); (first | exact hh _); (first | exact okT | exact okN | exact okE rfl)) | refine thenQ_n ?_ | refine thenQ_r ?_ | refine thenQ_e ?_ | refine blockQ_n ?_ | refine blockQ_r ?_ | refine blockQ_e ?_ | (apply blockQ_o; (exact rfl)) | refine Awp.seq ?_ | refine Awp.skip ?_ | refine Awp.block ?_ | refine reg (fun s => false) ?_ | (apply drwE mixed (fun s => false); (kernel_rfl)) | refine fin ?_ | refine Awp.ret ?_ | refine Awp.exit ?_ | ((first | (apply off; (exact rfl)) | apply condF); (first | (focus (simp only [go_sem, ↓reduceIte, simprocAttr] <;> rfl)) | exact rfl)))
    all_goals first | contradiction | (exfalso; omega) | skip
    exact bodyQ_mk (vs := [bv false]) (.inr rfl) (by rw [Try.results67]; simp only [go_sem, ↓reduceIte, simprocAttr]) (Vs.refl _ _ _) ⟨rfl, (fun h => by cases h), fun _ => rfl⟩

end Go.Proofs.Ytlhchnnfgppneaa.Ab
namespace Go.Proofs.Ytlhchnnfgppneaa.Ab
open Go Go.RowKit Go.Proofs
set_option linter.unusedSimpArgs false
set_option linter.unusedVariables false
attribute [local irreducible] Awp wpO thenQ blockQ bodyQ ACalls stepA

/-- a row of records of one's own -/
inductive HdO (lo : Nat) (H : Hp) : AV → List Hd → Prop
  | nil : HdO lo H nilS []
  | row {b : Nat} {v : List Hd} (hne : v ≠ []) (hlo : lo ≤ b) (hb : H[b]? = some (.cells (hds v) 53)) : HdO lo H (.msl b 0 v.length) v
theorem HdO.own {lo : Nat} {H : Hp} {a : AV} {v : List Hd} (h : HdO lo H a v) : Own lo 53 H a (hds v) := by
  cases h with
  | nil => exact .nil
  | row hne hlo hb =>
    have := Own.row (lo := lo) (t := 53) (H := H) (es := hds v) (by intro e; exact hne (List.eq_nil_of_length_eq_zero (by rw [← hds_len v, e]; rfl))) hlo hb
    rw [hds_len] at this
    exact this
theorem HdO.next {lo : Nat} {K : Hp} {a : AV} {v : List Hd} (_ : HdO lo K a v) (hl : lo ≤ K.length) (h : Hd) {n m : Nat} (hn : n = K.length) (hm : m = v.length + 1) : HdO lo (ownK K a ++ [.cells (hds v ++ [h.cs]) 53]) (.msl n 0 m) (v ++ [h]) := by
  subst hn hm
  have e : hds v ++ [h.cs] = hds (v ++ [h]) := by simp [hds]
  have e2 : v.length + 1 = (v ++ [h]).length := by simp
  rw [e, e2]
  refine .row (by simp) hl ?_
  have := get_new (ownK K a) (.cells (hds (v ++ [h])) 53)
  rw [ownK_len] at this
  exact this
theorem HdO.at_ {lo : Nat} {H : Hp} {a : AV} {v : List Hd} (h : HdO lo H a v) {q : Nat} (hq : q < lo) (ob : AObj) : HdAt (H.set q ob) a v ∧ ∀ j m, a = .msl j 0 m → lo ≤ j := by
  cases h with
  | nil => exact ⟨.nil, fun j m e => by cases e⟩
  | row hne hlo hb =>
    rename_i b
    refine ⟨?_, fun j m e => by cases e; exact hlo⟩
    have := HdAt.row (H := H.set q ob) (o := b) (n := v.length) (v := v) (by rw [List.getElem?_set_ne (by omega)]; exact hb) (Nat.le_refl _)
    rwa [List.take_length] at this
theorem HdO.len {lo : Nat} {H : Hp} {a : AV} {v : List Hd} (h : HdO lo H a v) : (a = nilS ∧ v = []) ∨ ∃ b, a = .msl b 0 v.length := by
  cases h with
  | nil => exact .inl ⟨rfl, rfl⟩
  | row _ _ _ => exact .inr ⟨_, rfl⟩
def keepL (f : Int → Bool) (L : List Hd) : List Hd := L.filter fun h => !f h.r.id
theorem keepL_succ {f : Int → Bool} {L : List Hd} {i : Nat} {h : Hd} (hi : L[i]? = some h) : keepL f (L.take (i + 1)) = if f h.r.id then keepL f (L.take i) else keepL f (L.take i) ++ [h] := by
  unfold keepL
  rw [List.take_add_one, hi, List.filter_append]
  cases e : f h.r.id <;> simp [e]

set_option maxRecDepth 8000 in
set_option maxHeartbeats 4000000 in
theorem rAck_ok {H : Hp} {q : Nat} {a : AV} {c t : Int} {L : List Hd} (hQ : Rq H q a c t L) (hl : L.length ≤ 257) {S : AV} (hC : ∀ H, CallsTo Try.prog 68 [S] H (iv 0) H) (f : Int → Bool) (hF : ∀ x H, CallsTo Try.prog 69 [S, iv x] H (bv (f x)) H) :
    ACalls Try.prog 34 [.mptr q 0 0, S] H fun v1 H1 => ∃ z, v1 = .tup [iv ((L.length : Int) - (keepL f L).length), iv 0] ∧ Rq H1 q z c t (keepL f L) ∧ H.length ≤ H1.length ∧ (∀ j, j < H.length → j ≠ q → H1[j]? = H[j]?) ∧ ∀ j m, z = .msl j 0 m → H.length ≤ j := by
  have hb := hQ.hb
  have hql := (List.getElem?_eq_some_iff.1 hb).1
  cases hQ.row with
  | nil =>
    have hqN := (heldS hb).1 (.cells [[iv c, iv t, nilS]] 73)
    refine ACalls.of_body Try.func34 rfl (by kernel_rfl) (by rw [Try.ntmps34]; simp) ?_; rw [Try.ntmps34]
    repeat' (first | refine spD (fun _ => ?_) (fun _ => ?_) | refine spF (fun _ => ?_) (fun _ => ?_) | (apply gT; (exact rfl)) | (apply off; (exact rfl); (exact rfl)) | (apply condT; (exact rfl)) | (apply condF; (exact rfl)) | ((first | (apply stp0; (exact rfl); (exact rfl)) | (apply stpN0; (exact rfl)) | apply gT | apply condT | ((first | apply bodyQ_d0 | apply bodyQ_d1 | apply bodyQ_d2 | apply bodyQ_d3 | apply bodyQ_d4); (exact .inr rfl); (rw [Try.results34]))); (first | (focus (simp only [go_sem, ↓reduceIte, simprocAttr, hb] <;> rfl)) | exact rfl); (first | (fail_if_success (show okD _ _ _ _ _ _ _ _ _)) | (first | exact okT | exact okN | exact okE rfl)); (first | (fail_if_success (show Bel _ _)) | (focus first | exact .val _ | (simp [oneOf, Bel_iff_tup, Bel_iff_agg, Bel_iff_rsl, Bel_iff_fn, Bel_iff_rptr, Bel_val]; done)))) | (apply calTo0; (exact rfl); (iterate 2 (simp only [go_sem, ↓reduceIte, simprocAttr, hb]; rfl)); (first | exact hC _); (first | exact okT | exact okN | exact okE rfl)) | refine thenQ_n ?_ | refine thenQ_r ?_ | refine thenQ_e ?_ | refine blockQ_n ?_ | refine blockQ_r ?_ | refine blockQ_e ?_ | (apply blockQ_o; (exact rfl)) | refine Awp.seq ?_ | refine Awp.skip ?_ | refine Awp.block ?_ | refine reg (fun s => false) ?_ | (apply drwE mixed (fun s => false); (kernel_rfl)) | refine fin ?_ | refine Awp.ret ?_ | refine Awp.exit ?_ | ((first | (apply off; (exact rfl)) | apply condF); (first | (focus (simp only [go_sem, ↓reduceIte, simprocAttr, hb] <;> rfl)) | exact rfl)))
    all_goals first | contradiction | (exfalso; omega) | skip
    refine Awp.loop (ι := Nat) (fun _ T' K => T' 0 = .mptr q 0 0 ∧ T' 8 = iv 0 ∧ T' 7 = nilS ∧ K = H) (fun m => m) 0 ?_ ?_
    · refine ⟨?_, ?_, ?_, rfl⟩
      · (first | (focus (simp only [go_sem, ↓reduceIte, simprocAttr]; first | done | rfl)) | rfl)
      · (first | (focus (simp only [go_sem, ↓reduceIte, simprocAttr]; first | done | rfl)) | rfl)
      · (first | (focus (simp only [go_sem, ↓reduceIte, simprocAttr]; first | done | rfl)) | rfl)
    rintro m T K ⟨t0, t8, t7, hK⟩
    rw [hK]
    repeat' (first | refine spD (fun _ => ?_) (fun _ => ?_) | refine spF (fun _ => ?_) (fun _ => ?_) | (apply gT; (exact rfl)) | (apply off; (exact rfl); (exact rfl)) | (apply condT; (exact rfl)) | (apply condF; (exact rfl)) | ((first | (apply stp0; (exact rfl); (exact rfl)) | (apply stpN0; (exact rfl)) | apply gT | apply condT); (first | (focus (simp only [go_sem, ↓reduceIte, simprocAttr, t0, t8, t7, hb] <;> rfl)) | exact rfl); (first | (fail_if_success (show okD _ _ _ _ _ _ _ _ _)) | (first | exact okT | exact okN | exact okE rfl))) | refine thenQ_n ?_ | refine thenQ_r ?_ | refine thenQ_e ?_ | refine blockQ_n ?_ | refine blockQ_r ?_ | refine blockQ_e ?_ | (apply blockQ_o; (exact rfl)) | refine Awp.seq ?_ | refine Awp.skip ?_ | refine Awp.block ?_ | refine reg (fun s => false) ?_ | (apply drwE mixed (fun s => false); (kernel_rfl)) | refine fin ?_ | refine Awp.ret ?_ | refine Awp.exit ?_ | ((first | (apply off; (exact rfl)) | apply condF); (first | (focus (simp only [go_sem, ↓reduceIte, simprocAttr, t0, t8, t7, hb] <;> rfl)) | exact rfl)))
    all_goals first | contradiction | (exfalso; omega) | skip
    exact bodyQ_mk (vs := [iv 0, iv 0]) (.inr rfl) (by rw [Try.results34]; simp only [go_sem, ↓reduceIte, simprocAttr]; rfl) (Vs.refl _ _ _) ⟨nilS, rfl, ⟨hqN, .nil⟩, by rw [List.length_set]; exact Nat.le_refl _, fun j _ hj => List.getElem?_set_ne (Ne.symm hj), fun j m e => by cases e⟩
  | row hbv hn =>
    rename_i o n v
    have hln : (v.take n).length = n := by rw [List.length_take, Nat.min_eq_left hn]
    rw [hln] at hl ⊢
    have hlm : n ≤ maxLen := by simp only [maxLen]; omega
    have hvl := hds_len v
    have hvh : ∀ i h, i < n → (v.take n)[i]? = some h → (hds v)[i]? = some [iv h.r.id, iv h.r.cls, iv h.r.made, iv h.r.size, iv h.r.pk, bv h.sm, iv h.sent] := fun i h hi hh => by
      rw [List.getElem?_take, if_pos hi] at hh
      exact hds_at hh
    obtain ⟨L, hL⟩ : ∃ L, L = v.take n := ⟨_, rfl⟩
    rw [← hL] at hln hvh ⊢
    clear hL hQ
    refine ACalls.of_body Try.func34 rfl (by kernel_rfl) (by rw [Try.ntmps34]; simp) ?_; rw [Try.ntmps34]
    repeat' (first | refine spD (fun _ => ?_) (fun _ => ?_) | refine spF (fun _ => ?_) (fun _ => ?_) | (apply gT; (exact rfl)) | (apply off; (exact rfl); (exact rfl)) | (apply condT; (exact rfl)) | (apply condF; (exact rfl)) | ((first | (apply stp0; (exact rfl); (exact rfl)) | (apply stpN0; (exact rfl)) | apply gT | apply condT | ((first | apply bodyQ_d0 | apply bodyQ_d1 | apply bodyQ_d2 | apply bodyQ_d3 | apply bodyQ_d4); (exact .inr rfl); (rw [Try.results34]))); (first | (focus (simp only [go_sem, ↓reduceIte, simprocAttr, hb] <;> rfl)) | exact rfl); (first | (fail_if_success (show okD _ _ _ _ _ _ _ _ _)) | (first | exact okT | exact okN | exact okE rfl)); (first | (fail_if_success (show Bel _ _)) | (focus first | exact .val _ | (simp [oneOf, Bel_iff_tup, Bel_iff_agg, Bel_iff_rsl, Bel_iff_fn, Bel_iff_rptr, Bel_val]; done)))) | (apply calTo0; (exact rfl); (iterate 2 (simp only [go_sem, ↓reduceIte, simprocAttr, hb]; rfl)); (first | exact hC _); (first | exact okT | exact okN | exact okE rfl)) | refine thenQ_n ?_ | refine thenQ_r ?_ | refine thenQ_e ?_ | refine blockQ_n ?_ | refine blockQ_r ?_ | refine blockQ_e ?_ | (apply blockQ_o; (exact rfl)) | refine Awp.seq ?_ | refine Awp.skip ?_ | refine Awp.block ?_ | refine reg (fun s => false) ?_ | (apply drwE mixed (fun s => false); (kernel_rfl)) | refine fin ?_ | refine Awp.ret ?_ | refine Awp.exit ?_ | ((first | (apply off; (exact rfl)) | apply condF); (first | (focus (simp only [go_sem, ↓reduceIte, simprocAttr, hb] <;> rfl)) | exact rfl)))
    all_goals first | contradiction | (exfalso; omega) | skip
    refine Awp.loop (ι := Nat) (fun i T' K => i ≤ n ∧ (T' 0 = .mptr q 0 0 ∧ T' 1 = S ∧ T' 8 = iv i) ∧ Grow H K ∧ ∃ z, T' 7 = z ∧ HdO H.length K z (keepL f (L.take i))) (fun i => n - i) 0 ?_ ?_
    · refine ⟨Nat.zero_le _, ⟨?_, ?_, ?_⟩, Grow.refl _, nilS, ?_, .nil⟩
      · (first | (focus (simp only [go_sem, ↓reduceIte, simprocAttr]; first | done | rfl)) | rfl)
      · (first | (focus (simp only [go_sem, ↓reduceIte, simprocAttr]; first | done | rfl)) | rfl)
      · (first | (focus (simp only [go_sem, ↓reduceIte, simprocAttr]; first | done | rfl)) | rfl)
      · (first | (focus (simp only [go_sem, ↓reduceIte, simprocAttr]; first | done | rfl)) | rfl)
    rintro i T K ⟨hi, ⟨t0, t1, t8⟩, hG, z, t7, hO⟩
    have hbK := hG.get hb
    have hvK := hG.get hbv
    by_cases hlt : i < n
    · obtain ⟨h, hh⟩ := nth (l := L) (i := i) (by omega)
      have hvi := hvh i h hlt hh
      have hsc := keepL_succ (f := f) hh
      have hsu := wsucc hlt hlm
      have hFx := hF h.r.id
      have hkl : (keepL f (L.take i)).length ≤ 257 := Nat.le_trans (List.length_filter_le ..) (Nat.le_trans (List.length_take_le' ..) (by omega))
      cases e : f h.r.id with
      | true =>
        rw [e] at hFx hsc
        rw [if_pos rfl] at hsc
        repeat' (first | refine spD (fun _ => ?_) (fun _ => ?_) | refine spF (fun _ => ?_) (fun _ => ?_) | (apply gT; (exact rfl)) | (apply off; (exact rfl); (exact rfl)) | (apply condT; (exact rfl)) | (apply condF; (exact rfl)) | ((first | (apply stp0; (exact rfl); (exact rfl)) | (apply stpN0; (exact rfl)) | apply gT | apply condT | ((first | apply bodyQ_d0 | apply bodyQ_d1 | apply bodyQ_d2 | apply bodyQ_d3 | apply bodyQ_d4); (exact .inr rfl); (rw [Try.results34]))); (first | (focus (simp only [go_sem, ↓reduceIte, simprocAttr, Int.ofNat_lt.2 hlt, t0, t1, t8, hbK, hvK, hvl, hvi, hlt, Nat.zero_add, hsu] <;> rfl)) | exact rfl); (first | (fail_if_success (show okD _ _ _ _ _ _ _ _ _)) | (first | exact okT | exact okN | exact okE rfl)); (first | (fail_if_success (show Bel _ _)) | (focus first | exact .val _ | (simp [oneOf, Bel_iff_tup, Bel_iff_agg, Bel_iff_rsl, Bel_iff_fn, Bel_iff_rptr, Bel_val]; done)))) | (apply calTo0; (exact rfl); (iterate 2 (simp only [go_sem, ↓reduceIte, simprocAttr, Int.ofNat_lt.2 hlt, t0, t1, t8, hbK, hvK, hvl, hvi, hlt, Nat.zero_add, hsu]; rfl)); (first | exact hFx _); (first | exact okT | exact okN | exact okE rfl)) | refine thenQ_n ?_ | refine thenQ_r ?_ | refine thenQ_e ?_ | refine blockQ_n ?_ | refine blockQ_r ?_ | refine blockQ_e ?_ | (apply blockQ_o; (exact rfl)) | refine Awp.seq ?_ | refine Awp.skip ?_ | refine Awp.block ?_ | refine reg (fun s => false) ?_ | (apply drwE mixed (fun s => false); (kernel_rfl)) | refine fin ?_ | refine Awp.ret ?_ | refine Awp.exit ?_ | ((first | (apply off; (exact rfl)) | apply condF); (first | (focus (simp only [go_sem, ↓reduceIte, simprocAttr, Int.ofNat_lt.2 hlt, t0, t1, t8, hbK, hvK, hvl, hvi, hlt, Nat.zero_add, hsu] <;> rfl)) | exact rfl)))
        all_goals first | contradiction | (exfalso; omega) | skip
        refine ⟨i + 1, ⟨hlt, ⟨?_, ?_, ?_⟩, hG, z, ?_, by rw [hsc]; exact hO⟩, Nat.sub_lt_sub_left hlt (Nat.lt_succ_self i)⟩
        · (first | (focus (simp only [go_sem, ↓reduceIte, simprocAttr, t0]; first | done | rfl)) | rfl)
        · (first | (focus (simp only [go_sem, ↓reduceIte, simprocAttr, t1]; first | done | rfl)) | rfl)
        · (first | (focus (simp only [go_sem, ↓reduceIte, simprocAttr, hsu]; first | done | rfl)) | rfl)
        · (first | (focus (simp only [go_sem, ↓reduceIte, simprocAttr, t7]; first | done | rfl)) | rfl)
      | false =>
        rw [e] at hFx hsc
        rw [if_neg (by simp)] at hsc
        have hOR : OwnR H.length 53 7 56 K z (hds (keepL f (L.take i))) := ⟨hO.own, hds_seven _, by rw [hds_len]; omega⟩
        repeat' (first | refine spD (fun _ => ?_) (fun _ => ?_) | refine spF (fun _ => ?_) (fun _ => ?_) | (apply gT; (exact rfl)) | (apply off; (exact rfl); (exact rfl)) | (apply condT; (exact rfl)) | (apply condF; (exact rfl)) | ((first | (apply stp0; (exact rfl); (exact rfl)) | (apply stpN0; (exact rfl)) | apply gT | apply condT | ((first | apply bodyQ_d0 | apply bodyQ_d1 | apply bodyQ_d2 | apply bodyQ_d3 | apply bodyQ_d4); (exact .inr rfl); (rw [Try.results34]))); (first | (focus (simp only [go_sem, ↓reduceIte, simprocAttr, Int.ofNat_lt.2 hlt, t0, t1, t7, t8, hbK, hvK, hvl, hvi, hlt, Nat.zero_add, hsu] <;> rfl)) | exact rfl); (first | (fail_if_success (show okD _ _ _ _ _ _ _ _ _)) | (first | exact okT | exact okN | exact okE rfl)); (first | (fail_if_success (show Bel _ _)) | (focus first | exact .val _ | (simp [oneOf, Bel_iff_tup, Bel_iff_agg, Bel_iff_rsl, Bel_iff_fn, Bel_iff_rptr, Bel_val]; done)))) | (apply stpApp; (exact rfl); (first | exact hOR); (iterate 2 (first | (focus (simp only [go_sem, ↓reduceIte, simprocAttr, Int.ofNat_lt.2 hlt, t0, t1, t7, t8, hbK, hvK, hvl, hvi, hlt, Nat.zero_add, hsu] <;> rfl)) | rfl)); (first | rfl | (simp [AV.isCell]; done)); (first | rfl | (simp; done)); (first | exact ap39 | exact ap44 | exact ap46 | exact ap61 | exact ap63 | exact ap75 | exact ap86 | exact ap101 | exact ap102); (first | exact okT | exact okN | exact okE rfl)) | (apply calTo0; (exact rfl); (iterate 2 (simp only [go_sem, ↓reduceIte, simprocAttr, Int.ofNat_lt.2 hlt, t0, t1, t7, t8, hbK, hvK, hvl, hvi, hlt, Nat.zero_add, hsu]; rfl)); (first | exact hFx _); (first | exact okT | exact okN | exact okE rfl)) | refine thenQ_n ?_ | refine thenQ_r ?_ | refine thenQ_e ?_ | refine blockQ_n ?_ | refine blockQ_r ?_ | refine blockQ_e ?_ | (apply blockQ_o; (exact rfl)) | refine Awp.seq ?_ | refine Awp.skip ?_ | refine Awp.block ?_ | refine reg (fun s => false) ?_ | (apply drwE mixed (fun s => false); (kernel_rfl)) | refine fin ?_ | refine Awp.ret ?_ | refine Awp.exit ?_ | ((first | (apply off; (exact rfl)) | apply condF); (first | (focus (simp only [go_sem, ↓reduceIte, simprocAttr, Int.ofNat_lt.2 hlt, t0, t1, t7, t8, hbK, hvK, hvl, hvi, hlt, Nat.zero_add, hsu] <;> rfl)) | exact rfl)))
        all_goals first | contradiction | (exfalso; omega) | skip
        refine ⟨i + 1, ⟨hlt, ⟨?_, ?_, ?_⟩, (hO.own.grow (Nat.le_refl _) hG).app _, .msl K.length 0 ((hds (keepL f (L.take i))).length + 1), ?_, ?_⟩, Nat.sub_lt_sub_left hlt (Nat.lt_succ_self i)⟩
        · (first | (focus (simp only [go_sem, ↓reduceIte, simprocAttr, t0]; first | done | rfl)) | rfl)
        · (first | (focus (simp only [go_sem, ↓reduceIte, simprocAttr, t1]; first | done | rfl)) | rfl)
        · (first | (focus (simp only [go_sem, ↓reduceIte, simprocAttr, hsu]; first | done | rfl)) | rfl)
        · (first | (focus (simp only [go_sem, ↓reduceIte, simprocAttr]; first | done | rfl)) | rfl)
        · rw [hsc]; exact hO.next hG.len h rfl (by rw [hds_len])
    · have hie : i = n := Nat.le_antisymm hi (Nat.not_lt.1 hlt)
      subst hie
      rw [List.take_of_length_le (by omega)] at hO
      have hkl : (keepL f L).length ≤ i := Nat.le_trans (List.length_filter_le ..) (by omega)
      have ww : IntKind.i64.wrap ((i : Int) - ((keepL f L).length : Int)) = (i : Int) - ((keepL f L).length : Int) := w64 (by omega) (by omega)
      obtain ⟨hHA, hge⟩ := hO.at_ hql (.cells [[iv c, iv t, z]] 73)
      have hqK := (heldS hbK).1 (.cells [[iv c, iv t, z]] 73)
      have hold : ∀ j, j < H.length → j ≠ q → (K.set q (.cells [[iv c, iv t, z]] 73))[j]? = H[j]? := fun j hj hq => by rw [List.getElem?_set_ne (Ne.symm hq)]; exact hG.old j hj
      have hlen : H.length ≤ (K.set q (.cells [[iv c, iv t, z]] 73)).length := by rw [List.length_set]; exact hG.len
      generalize hkk : keepL f L = KL at *
      rcases hO.len with ⟨rfl, rfl⟩ | ⟨b, rfl⟩
      · have w0 : IntKind.i64.wrap ((i : Int) - ((0 : Nat) : Int)) = (i : Int) - ((0 : Nat) : Int) := ww
        have w00 : IntKind.i64.wrap ((i : Int) - 0) = (i : Int) - 0 := ww
        repeat' (first | refine spD (fun _ => ?_) (fun _ => ?_) | refine spF (fun _ => ?_) (fun _ => ?_) | (apply gT; (exact rfl)) | (apply off; (exact rfl); (exact rfl)) | (apply condT; (exact rfl)) | (apply condF; (exact rfl)) | ((first | (apply stp0; (exact rfl); (exact rfl)) | (apply stpN0; (exact rfl)) | apply gT | apply condT); (first | (focus (simp only [go_sem, ↓reduceIte, simprocAttr, Int.lt_irrefl, t0, t8, t7, hbK, w0, w00] <;> rfl)) | exact rfl); (first | (fail_if_success (show okD _ _ _ _ _ _ _ _ _)) | (first | exact okT | exact okN | exact okE rfl))) | refine thenQ_n ?_ | refine thenQ_r ?_ | refine thenQ_e ?_ | refine blockQ_n ?_ | refine blockQ_r ?_ | refine blockQ_e ?_ | (apply blockQ_o; (exact rfl)) | refine Awp.seq ?_ | refine Awp.skip ?_ | refine Awp.block ?_ | refine reg (fun s => false) ?_ | (apply drwE mixed (fun s => false); (kernel_rfl)) | refine fin ?_ | refine Awp.ret ?_ | refine Awp.exit ?_ | ((first | (apply off; (exact rfl)) | apply condF); (first | (focus (simp only [go_sem, ↓reduceIte, simprocAttr, Int.lt_irrefl, t0, t8, t7, hbK, w0, w00] <;> rfl)) | exact rfl)))
        all_goals first | contradiction | (exfalso; omega) | skip
        exact bodyQ_mk (vs := [iv ((i : Int) - ((0 : Nat) : Int)), iv 0]) (.inr rfl) (by rw [Try.results34]; simp only [go_sem, ↓reduceIte, simprocAttr, w0, w00]) (Vs.refl _ _ _) ⟨nilS, rfl, ⟨hqK, hHA⟩, hlen, hold, hge⟩
      · repeat' (first | refine spD (fun _ => ?_) (fun _ => ?_) | refine spF (fun _ => ?_) (fun _ => ?_) | (apply gT; (exact rfl)) | (apply off; (exact rfl); (exact rfl)) | (apply condT; (exact rfl)) | (apply condF; (exact rfl)) | ((first | (apply stp0; (exact rfl); (exact rfl)) | (apply stpN0; (exact rfl)) | apply gT | apply condT); (first | (focus (simp only [go_sem, ↓reduceIte, simprocAttr, Int.lt_irrefl, t0, t8, t7, hbK, ww] <;> rfl)) | exact rfl); (first | (fail_if_success (show okD _ _ _ _ _ _ _ _ _)) | (first | exact okT | exact okN | exact okE rfl))) | refine thenQ_n ?_ | refine thenQ_r ?_ | refine thenQ_e ?_ | refine blockQ_n ?_ | refine blockQ_r ?_ | refine blockQ_e ?_ | (apply blockQ_o; (exact rfl)) | refine Awp.seq ?_ | refine Awp.skip ?_ | refine Awp.block ?_ | refine reg (fun s => false) ?_ | (apply drwE mixed (fun s => false); (kernel_rfl)) | refine fin ?_ | refine Awp.ret ?_ | refine Awp.exit ?_ | ((first | (apply off; (exact rfl)) | apply condF); (first | (focus (simp only [go_sem, ↓reduceIte, simprocAttr, Int.lt_irrefl, t0, t8, t7, hbK, ww] <;> rfl)) | exact rfl)))
        all_goals first | contradiction | (exfalso; omega) | skip
        exact bodyQ_mk (vs := [iv ((i : Int) - (KL.length : Int)), iv 0]) (.inr rfl) (by rw [Try.results34]; simp only [go_sem, ↓reduceIte, simprocAttr, ww]) (Vs.refl _ _ _) ⟨_, rfl, ⟨hqK, hHA⟩, hlen, hold, hge⟩

end Go.Proofs.Ytlhchnnfgppneaa.Ab
namespace Go.Proofs.Ytlhchnnfgppneaa.Ab
open Go Go.RowKit Go.Proofs
set_option linter.unusedSimpArgs false
set_option linter.unusedVariables false

section
variable {base : Nat} {w0 w w' : World} {g : Gh} {H : Hp} {P : Program} {n : Nat} {rd : Option Nat} {T : Env} {Q : Exit → Env → Hp → Prop}

/-- operations in a row, each told by the machine's word -/
def wpW (P : Program) (n : Nat) : List Oper → Env → Hp → (Env → Hp → Prop) → Prop
  | [], T, H, K => K T H
  | o :: rest, T, H, K => dstOk n o.dst = true ∧ o.guard = none ∧ OpOK P o T H fun v H' => wpW P n rest (putA T o.dst v) H' K

theorem wpW_sound {ops : Array Oper} {r : Option Nat} {Q : Exit → Act → World → Prop} {base : Nat} {w0 : World} {ds : List Deferred} {g0 : Gh} {K : Env → Hp → Prop}
    (hQ : ∀ T H g w a, K T H → g0.le g → Sim base w0 g H w → TRel g n T a.tmps → a.defers = ds → Q .normal a w) :
    ∀ (l : List Oper) (T : Env) (H : Hp) (g : Gh) (w : World) (a : Act), g0.le g → Sim base w0 g H w →
      TRel g n T a.tmps → a.defers = ds → wpW P n l T H K → wpListIn (FR r) 0 P ops Q l a w
  | [], T, H, g, w, a, hg, S, hT, hd, h => hQ T H g w a h hg S hT hd
  | o :: rest, T, H, g, w, a, hg, S, hT, hd, h => by
    obtain ⟨hdst, hgd, h1⟩ := h
    have hw : Region.wanted o (yielded ops a.tmps) = true := by simp [Region.wanted, hgd]
    have hput : ∀ z, (a.put o.dst z).defers = a.defers := by intro z; cases o.dst <;> rfl
    unfold wpListIn
    rw [if_pos hw]
    refine h1 base w0 g w a r S (fun x _ => evA_rel hT x) _ _ (fun v z H' g' w' hk hg' S' hR => ?_)
    exact wpW_sound hQ rest _ H' g' w' _ (hg.trans hg') S' ((hT.mono hg').put hdst hR) (by rw [hput]; exact hd) hk

/-- a region without an order of its own, told so -/
theorem Awp.regionW {id : Nat} {ops : Array Oper} (h : wpW P n ops.toList T H (Q .normal)) : Awp P n rd (.region id ops false) T H Q := by
  intro base w0 g w a r S hT hr
  refine wpIn_region_list ?_
  exact wpW_sound (ops := ops) (r := r) (base := base) (w0 := w0) (ds := a.defers) (g0 := g) (K := Q .normal)
    (Q := fun e a' w' => ∃ T' H' g' ds, Q e T' H' ∧ g.le g' ∧ Sim base w0 g' H' w' ∧ TRel g' n T' a'.tmps ∧ a'.defers = ds ++ a.defers ∧ Marks g g' ds)
    (fun T H g' w' a' hk hg S' hT' hd => ⟨T, H, g', [], hk, hg, S', hT', hd, Marks.nil _ _⟩) ops.toList T H g w a (Gh.le.refl g) S hT rfl h
end

section
variable {T : Env} {H : Hp} {k : AV → Hp → Prop} {o : Oper}

theorem opMove {x : Operand} (ho : o.op = .move x) (hk : k (evA T x) H) : OpOK Try.prog o T H k := OpOK.step (mu := fun _ => false) (v := evA T x) (H' := H) (by simp [stepA, ho]) hk

theorem ints1 (v : List Int) : (v.map fun x => [AV.val (.int .i64 x)]).all (fun e => e.length == 1) = true := by simp

theorem opSliceLo {x i : Operand} {b len lo : Nat} {v : List Int} (ho : o.op = .slice 46 x (some i) none none) (hx : evA T x = .msl b 0 len) (hi : evA T i = .val (.int .i64 lo))
    (hb : H[b]? = some (.cells (v.map fun x => [.val (.int .i64 x)]) 2)) (hn : len ≤ v.length) (hl : lo < len) (hk : k (.msl b lo (len - lo)) H) : OpOK Try.prog o T H k := by
  intro base w0 g w a r S hr next Q hnx
  have hex : o.semAt (FR r).round a.eval = execOp a.eval o := Oper.semAt_eq _ _ _ (by intro c hc; rw [ho] at hc; cases hc)
  have h0 := hr x (by rw [ho]; simp [Op.operands, Call.operands])
  have h1 := hr i (by rw [ho]; simp [Op.operands, Call.operands])
  rw [hx] at h0
  rw [hi] at h1
  obtain ⟨y, cap, cur, hv, hy, hks, hlc, hcc, hcm, hw, hcur, hF⟩ := msl_flat S h0 hb (by simpa using hn) (ints1 v) (by simp; omega)
  generalize hiv : a.eval i = iv at h1
  cases h1
  have hinf : ∃ inf, Try.prog.info? 2 = some inf ∧ inf.size = 1 := by
    obtain ⟨i0, hi0, h0, h1, h2⟩ := info_parts i_inf2
    exact ⟨i0, hi0, h1⟩
  obtain ⟨inf, hi2, hs1⟩ := hinf
  have hrun := bounds_run (P := Try.prog) (w := w) (g := g) (lo := some (.val (.int .i64 (lo : Int)))) (hi := none) (mx := none) (lov := some (.int .i64 (lo : Int))) (hiv := none) (mxv := none) (len := len) (cap := cap) (l := lo) (h := len) (m := cap)
    (by simp [bnd]) rfl rfl (show R g _ _ from .val _) trivial trivial (by omega) hlc (Nat.le_refl _) (by simp)
  have hex2 : (execOp a.eval o).run Try.prog w = .ok (.value (.slice (some ⟨y, lo, none⟩) (len - lo) (cap - lo))) w := by
    simp only [execOp, ho, Option.map_some, Option.map_none, hv, hiv, Instr.sliceAt, Instr.slice, Sem.run_bind, run_underlying i_at46, Result.andThen_ok, run_sizeOf _ _ hi2, Sem.run_pure, hrun]
    have hne : ¬ cap = lo := by omega
    simp [hne, Addr.add, hs1, eq_comm]
  refine ⟨fun _ _ => trivial, ?_⟩
  rw [hex, hex2]
  refine hnx _ _ H g w hk (Gh.le.refl g) S ?_
  have := R.msl (g := g) (b := b) (off := lo) (len := len - lo) (x := y) (cap := cap - lo) hy (by omega) (by omega) (by omega)
  rwa [hks, Nat.mul_one] at this

theorem opClear {x : Operand} {b lo m : Nat} {v : List Int} (ho : o.op = .call ⟨.builtin .clear, #[x], #[46]⟩) (hx : evA T x = .msl b lo m)
    (hb : H[b]? = some (.cells (v.map fun x => [.val (.int .i64 x)]) 2)) (hn : lo + m ≤ v.length) (h0 : 0 < m) (hk : ∀ (u : AV) (v' : List Int), v'.length = v.length → v'.take lo = v.take lo → k u (H.set b (.cells (v'.map fun x => [.val (.int .i64 x)]) 2))) : OpOK Try.prog o T H k := by
  intro base w0 g w a r S hr next Q hnx
  have hex : o.semAt (FR r).round a.eval = execOp a.eval o := Oper.semAt_eq _ _ _ (by intro c hc; rw [ho] at hc; cases hc)
  have h0' := hr x (by rw [ho]; simp [Op.operands, Call.operands])
  rw [hx] at h0'
  obtain ⟨y, cap, cur, hv, hy, hks, hlc, hcc, hcm, hw, hcur, hF⟩ := msl_flat S h0' hb (by simpa using hn) (ints1 v) (by simp; omega)
  obtain ⟨y2, o2, h1, h2, h3⟩ := S.obj b _ hb (by simp)
  rw [hy] at h1; cases h1
  rw [hw] at h2; cases h2
  cases h3 with
  | cells hs hl hk' hr' =>
  rw [hks] at hs hr' hk'
  simp only [Nat.mul_one] at hs hr' hv
  obtain ⟨zs, hzs⟩ : ∃ zs, zs = (Builtin.zeroCells (Value.int .i64 0).cells m).toList := ⟨_, rfl⟩
  have hzl : zs.length = m := by rw [hzs]; simp [Builtin.zeroCells, Value.cells]
  have hza : ∀ u ∈ zs, u = .int .i64 0 := by
    intro u hu
    rw [hzs] at hu
    simp only [Builtin.zeroCells, Value.cells, Array.toList_map, List.mem_map] at hu
    obtain ⟨i, hi, rfl⟩ := hu
    simp [Nat.mod_one]
  have hz1 : ∀ u ∈ zs, u.oneCell' = true := by intro u hu; rw [hza u hu]; rfl
  have hst := run_storeCells_at Try.prog y lo 2 zs 0 cur w hw (by rw [hzl]; omega) hz1
  have hex2 : (execOp a.eval o).run Try.prog w = .ok (.value (.tuple #[])) (w.setRow y (setAt cur.toList lo zs).toArray) := by
    have e1 : (Builtin.clear_ #[46] o.type #[.slice (some ⟨y, lo, none⟩) m cap]).run Try.prog w = .ok (.tuple #[]) (w.setRow y (setAt cur.toList lo zs).toArray) := by
      obtain ⟨m', rfl⟩ : ∃ m', m = m' + 1 := ⟨m - 1, by omega⟩
      simp [Builtin.clear_, run_underlying i_at46, i_zv2, ← hzs, hst, setAt]
    simp only [execOp, ho, resolve, invoke, builtin, Sem.run_bind, Sem.run_pure, Result.andThen_ok, List.map_toArray, List.map_cons, List.map_nil, hv, e1]
  refine ⟨fun _ _ => trivial, ?_⟩
  rw [hex, hex2]
  obtain ⟨v', hv'⟩ : ∃ v', v' = v.take lo ++ List.replicate m (0 : Int) ++ v.drop (lo + m) := ⟨_, rfl⟩
  have hvl : v'.length = v.length := by rw [hv']; simp; omega
  have hvt : v'.take lo = v.take lo := by rw [hv', List.append_assoc, List.take_append_of_le_length (by simp; omega), List.take_take, Nat.min_self]
  have hsl : lo + zs.length ≤ cur.toList.length := by rw [hzl]; simp; omega
  refine hnx _ _ _ g _ (hk _ v' hvl hvt) (Gh.le.refl g) (S.turn hb (by simp) hy (w' := w.setRow y (setAt cur.toList lo zs).toArray) ⟨rfl, rfl, rfl, by simp [World.setRow], fun k _ hk => setRow_other w y k _ (fun e => hk (by simp [e]))⟩ (setRow_heap w y cur _ 2 _ hw) ?_) (.val _)
  rw [hks]
  refine .cells (by simp only [List.size_toArray]; rw [setAt_length _ _ _ hsl]; simpa using hs) (by simpa [hvl] using hl) (fun i e he => ?_) (fun i e j c he hc => ?_)
  · rw [List.getElem?_map, Option.map_eq_some_iff] at he
    obtain ⟨_, _, rfl⟩ := he; rfl
  · rw [List.getElem?_map, Option.map_eq_some_iff] at he
    obtain ⟨x1, hx1, rfl⟩ := he
    have hj : j = 0 := by have := (List.getElem?_eq_some_iff.1 hc).1; simp at this; omega
    subst hj
    simp at hc; subst hc
    simp only [Nat.mul_one, Nat.add_zero, List.getElem?_toArray]
    have hi : i < v.length := by rw [← hvl]; exact (List.getElem?_eq_some_iff.1 hx1).1
    rw [setAt_get _ _ _ _ hsl, hzl]
    have hold : ∀ z, v[i]? = some z → ∃ u, cur.toList[i]? = some u ∧ R g (.val (.int .i64 z)) u := by
      intro z hz
      obtain ⟨u, u1, u2⟩ := hr' i [.val (.int .i64 z)] 0 (.val (.int .i64 z)) (by rw [List.getElem?_map, hz]; rfl) rfl
      exact ⟨u, by simpa using u1, u2⟩
    by_cases c1 : i < lo
    · rw [if_pos c1]
      refine hold x1 ?_
      rw [hv', List.append_assoc, List.getElem?_append_left (by simp; omega), List.getElem?_take, if_pos c1] at hx1
      exact hx1
    · rw [if_neg c1]
      by_cases c2 : i < lo + m
      · rw [if_pos c2]
        rw [hv', List.append_assoc, List.getElem?_append_right (by simp; omega), List.getElem?_append_left (by simp; omega), List.getElem?_replicate] at hx1
        split at hx1
        · cases hx1
          have hzi : zs[i - lo]? = some zs[i - lo] := List.getElem?_eq_getElem (by omega)
          refine ⟨_, hzi, ?_⟩
          rw [hza _ (List.getElem_mem _)]
          exact .val _
        · cases hx1
      · rw [if_neg c2]
        refine hold x1 ?_
        rw [hv', List.getElem?_append_right (by simp; omega), List.getElem?_drop] at hx1
        simp at hx1
        rw [show lo + m + (i - (min lo v.length + m)) = i by omega] at hx1
        exact hx1
end

end Go.Proofs.Ytlhchnnfgppneaa.Ab
namespace Go.Proofs.Ytlhchnnfgppneaa.Ab
open Go Go.RowKit Go.Proofs
set_option linter.unusedSimpArgs false
set_option linter.unusedVariables false
attribute [local irreducible] Awp wpO thenQ blockQ bodyQ ACalls stepA

/-- a function that is asked of the numbers of a row, one after the other -/
def AsksI (f : FuncId) (cap : List AV) (b : Nat) (v : List Int) (p : Int → Bool) (I : Nat → Hp → Prop) : Prop :=
  ∀ (j : Nat) (x : Int) (K : Hp), v[j]? = some x → I j K → ACalls Try.prog f ([iv x] ++ cap) K fun v1 K1 => v1 = bv (p x) ∧ K1[b]? = K[b]? ∧ I (j + 1) K1

set_option maxRecDepth 8000 in
theorem indexI_ok {H : Hp} {b n : Nat} {u : List Int} {f : FuncId} {cap : List AV} {p : Int → Bool} {I : Nat → Hp → Prop} (hb : H[b]? = some (.cells (ints u) 2)) (hn : n ≤ u.length) (hm : n ≤ maxLen)
    (hf : AsksI f cap b (u.take n) p I) (h0 : I 0 H) : ACalls Try.prog 98 [.msl b 0 n, .fn (.func f) cap] H fun v1 K1 =>
      (∃ i x, i < n ∧ u[i]? = some x ∧ p x = true ∧ (∀ j y, j < i → u[j]? = some y → p y = false) ∧ v1 = iv (i : Int) ∧ I (i + 1) K1 ∧ K1[b]? = H[b]?) ∨
      (v1 = iv (-1) ∧ (∀ j y, j < n → u[j]? = some y → p y = false) ∧ I n K1 ∧ K1[b]? = H[b]?) := by
  have hul := ints_len u
  refine ACalls.of_body Try.func98 rfl (by kernel_rfl) (by rw [Try.ntmps98]; simp) ?_; rw [Try.ntmps98]
  repeat' (first | refine spD (fun _ => ?_) (fun _ => ?_) | refine spF (fun _ => ?_) (fun _ => ?_) | (apply gT; (exact rfl)) | (apply off; (exact rfl); (exact rfl)) | (apply condT; (exact rfl)) | (apply condF; (exact rfl)) | ((first | (apply stp0; (exact rfl); (exact rfl)) | (apply stpN0; (exact rfl)) | apply gT | apply condT | ((first | apply bodyQ_d0 | apply bodyQ_d1 | apply bodyQ_d2 | apply bodyQ_d3 | apply bodyQ_d4); (exact .inr rfl); (rw [Try.results98]))); (first | (focus (simp only [go_sem, ↓reduceIte, simprocAttr] <;> rfl)) | exact rfl); (first | (fail_if_success (show okD _ _ _ _ _ _ _ _ _)) | (first | exact okT | exact okN | exact okE rfl)); (first | (fail_if_success (show Bel _ _)) | (focus first | exact .val _ | (simp [oneOf, Bel_iff_tup, Bel_iff_agg, Bel_iff_rsl, Bel_iff_fn, Bel_iff_rptr, Bel_val]; done)))) | refine thenQ_n ?_ | refine thenQ_r ?_ | refine thenQ_e ?_ | refine blockQ_n ?_ | refine blockQ_r ?_ | refine blockQ_e ?_ | (apply blockQ_o; (exact rfl)) | refine Awp.seq ?_ | refine Awp.skip ?_ | refine Awp.block ?_ | refine reg (fun s => false) ?_ | (apply drwE mixed (fun s => false); (kernel_rfl)) | refine fin ?_ | refine Awp.ret ?_ | refine Awp.exit ?_ | ((first | (apply off; (exact rfl)) | apply condF); (first | (focus (simp only [go_sem, ↓reduceIte, simprocAttr] <;> rfl)) | exact rfl)))
  refine Awp.loop (ι := Nat) (fun i T' K => i ≤ n ∧ T' 8 = iv i ∧ T' 7 = iv n ∧ T' 0 = .msl b 0 n ∧ T' 1 = .fn (.func f) cap ∧ K[b]? = H[b]? ∧ I i K ∧ (∀ j y, j < i → u[j]? = some y → p y = false)) (fun i => n - i) 0 ?_ ?_
  · refine ⟨Nat.zero_le _, ?_, ?_, ?_, ?_, rfl, h0, fun j y hj => absurd hj (Nat.not_lt_zero _)⟩
    · (first | (focus (simp only [go_sem, ↓reduceIte, simprocAttr]; first | done | rfl)) | rfl)
    · (first | (focus (simp only [go_sem, ↓reduceIte, simprocAttr]; first | done | rfl)) | rfl)
    · (first | (focus (simp only [go_sem, ↓reduceIte, simprocAttr]; first | done | rfl)) | rfl)
    · (first | (focus (simp only [go_sem, ↓reduceIte, simprocAttr]; first | done | rfl)) | rfl)
  rintro i T K ⟨hi, h8, h7, t0, t1, hKb, hI, hno⟩
  by_cases hlt : i < n
  · obtain ⟨x, hx⟩ := nth (l := u) (i := i) (Nat.lt_of_lt_of_le hlt hn)
    have hxt : (u.take n)[i]? = some x := by rw [List.getElem?_take, if_pos hlt]; exact hx
    have hbK : K[b]? = some (.cells (ints u) 2) := by rw [hKb]; exact hb
    have hui : (ints u)[i]? = some [iv x] := nthMap (fun x => [iv x]) hx
    have hsu := wsucc hlt hm
    repeat' (first | refine spD (fun _ => ?_) (fun _ => ?_) | refine spF (fun _ => ?_) (fun _ => ?_) | (apply gT; (exact rfl)) | (apply off; (exact rfl); (exact rfl)) | (apply condT; (exact rfl)) | (apply condF; (exact rfl)) | ((first | (apply stp0; (exact rfl); (exact rfl)) | (apply stpN0; (exact rfl)) | apply gT | apply condT | ((first | apply bodyQ_d0 | apply bodyQ_d1 | apply bodyQ_d2 | apply bodyQ_d3 | apply bodyQ_d4); (exact .inr rfl); (rw [Try.results98]))); (first | (focus (simp only [go_sem, ↓reduceIte, simprocAttr, Int.ofNat_lt.2 hlt, h8, h7, t0, t1, hbK, hul, hui, hlt, Nat.zero_add] <;> rfl)) | exact rfl); (first | (fail_if_success (show okD _ _ _ _ _ _ _ _ _)) | (first | exact okT | exact okN | exact okE rfl)); (first | (fail_if_success (show Bel _ _)) | (focus first | exact .val _ | (simp [oneOf, Bel_iff_tup, Bel_iff_agg, Bel_iff_rsl, Bel_iff_fn, Bel_iff_rptr, Bel_val]; done)))) | refine thenQ_n ?_ | refine thenQ_r ?_ | refine thenQ_e ?_ | refine blockQ_n ?_ | refine blockQ_r ?_ | refine blockQ_e ?_ | (apply blockQ_o; (exact rfl)) | refine Awp.seq ?_ | refine Awp.skip ?_ | refine Awp.block ?_ | refine reg (fun s => false) ?_ | (apply drwE mixed (fun s => false); (kernel_rfl)) | refine fin ?_ | refine Awp.ret ?_ | refine Awp.exit ?_ | ((first | (apply off; (exact rfl)) | apply condF); (first | (focus (simp only [go_sem, ↓reduceIte, simprocAttr, Int.ofNat_lt.2 hlt, h8, h7, t0, t1, hbK, hul, hui, hlt, Nat.zero_add] <;> rfl)) | exact rfl)))
    all_goals first | contradiction | (exfalso; omega) | skip
    refine cal rfl rfl rfl ?_ (show ACallV Try.prog (.fn (.func f) cap) [iv x] K _ from hf i x K hxt hI) ?_
    · (first | (focus (simp only [go_sem, ↓reduceIte, simprocAttr]; first | done | rfl)) | rfl)
    rintro v1 K1 ⟨rfl, hb1, hI1⟩
    cases hp : p x with
    | true =>
      repeat' (first | refine spD (fun _ => ?_) (fun _ => ?_) | refine spF (fun _ => ?_) (fun _ => ?_) | (apply gT; (exact rfl)) | (apply off; (exact rfl); (exact rfl)) | (apply condT; (exact rfl)) | (apply condF; (exact rfl)) | ((first | (apply stp0; (exact rfl); (exact rfl)) | (apply stpN0; (exact rfl)) | apply gT | apply condT); (first | (focus (simp only [go_sem, ↓reduceIte, simprocAttr] <;> rfl)) | exact rfl); (first | (fail_if_success (show okD _ _ _ _ _ _ _ _ _)) | (first | exact okT | exact okN | exact okE rfl))) | refine thenQ_n ?_ | refine thenQ_r ?_ | refine thenQ_e ?_ | refine blockQ_n ?_ | refine blockQ_r ?_ | refine blockQ_e ?_ | (apply blockQ_o; (exact rfl)) | refine Awp.seq ?_ | refine Awp.skip ?_ | refine Awp.block ?_ | refine reg (fun s => false) ?_ | (apply drwE mixed (fun s => false); (kernel_rfl)) | refine fin ?_ | refine Awp.ret ?_ | refine Awp.exit ?_ | ((first | (apply off; (exact rfl)) | apply condF); (first | (focus (simp only [go_sem, ↓reduceIte, simprocAttr] <;> rfl)) | exact rfl)))
      all_goals first | contradiction | (exfalso; omega) | skip
      exact bodyQ_mk (vs := [iv i]) (.inr rfl) (by rw [Try.results98]; simp only [go_sem, ↓reduceIte, simprocAttr]) (Vs.refl _ _ _) (.inl ⟨i, x, hlt, hx, hp, hno, rfl, hI1, hb1.trans hKb⟩)
    | false =>
      repeat' (first | refine spD (fun _ => ?_) (fun _ => ?_) | refine spF (fun _ => ?_) (fun _ => ?_) | (apply gT; (exact rfl)) | (apply off; (exact rfl); (exact rfl)) | (apply condT; (exact rfl)) | (apply condF; (exact rfl)) | ((first | (apply stp0; (exact rfl); (exact rfl)) | (apply stpN0; (exact rfl)) | apply gT | apply condT | ((first | apply bodyQ_d0 | apply bodyQ_d1 | apply bodyQ_d2 | apply bodyQ_d3 | apply bodyQ_d4); (exact .inr rfl); (rw [Try.results98]))); (first | (focus (simp only [go_sem, ↓reduceIte, simprocAttr, hsu, h8] <;> rfl)) | exact rfl); (first | (fail_if_success (show okD _ _ _ _ _ _ _ _ _)) | (first | exact okT | exact okN | exact okE rfl)); (first | (fail_if_success (show Bel _ _)) | (focus first | exact .val _ | (simp [oneOf, Bel_iff_tup, Bel_iff_agg, Bel_iff_rsl, Bel_iff_fn, Bel_iff_rptr, Bel_val]; done)))) | refine thenQ_n ?_ | refine thenQ_r ?_ | refine thenQ_e ?_ | refine blockQ_n ?_ | refine blockQ_r ?_ | refine blockQ_e ?_ | (apply blockQ_o; (exact rfl)) | refine Awp.seq ?_ | refine Awp.skip ?_ | refine Awp.block ?_ | refine reg (fun s => false) ?_ | (apply drwE mixed (fun s => false); (kernel_rfl)) | refine fin ?_ | refine Awp.ret ?_ | refine Awp.exit ?_ | ((first | (apply off; (exact rfl)) | apply condF); (first | (focus (simp only [go_sem, ↓reduceIte, simprocAttr, hsu, h8] <;> rfl)) | exact rfl)))
      all_goals first | contradiction | (exfalso; omega) | skip
      refine ⟨i + 1, ⟨hlt, ?_, ?_, ?_, ?_, hb1.trans hKb, hI1, fun j y hj hy => ?_⟩, Nat.sub_lt_sub_left hlt (Nat.lt_succ_self i)⟩
      · (first | (focus (simp only [go_sem, ↓reduceIte, simprocAttr, hsu]; first | done | rfl)) | rfl)
      · (first | (focus (simp only [go_sem, ↓reduceIte, simprocAttr, h7]; first | done | rfl)) | rfl)
      · (first | (focus (simp only [go_sem, ↓reduceIte, simprocAttr, t0]; first | done | rfl)) | rfl)
      · (first | (focus (simp only [go_sem, ↓reduceIte, simprocAttr, t1]; first | done | rfl)) | rfl)
      · rcases Nat.lt_succ_iff_lt_or_eq.1 hj with h | h
        · exact hno j y h hy
        · subst h; rw [hx] at hy; cases hy; exact hp
  · have hie : i = n := Nat.le_antisymm hi (Nat.not_lt.1 hlt)
    subst hie
    repeat' (first | refine spD (fun _ => ?_) (fun _ => ?_) | refine spF (fun _ => ?_) (fun _ => ?_) | (apply gT; (exact rfl)) | (apply off; (exact rfl); (exact rfl)) | (apply condT; (exact rfl)) | (apply condF; (exact rfl)) | ((first | (apply stp0; (exact rfl); (exact rfl)) | (apply stpN0; (exact rfl)) | apply gT | apply condT); (first | (focus (simp only [go_sem, ↓reduceIte, simprocAttr, Int.lt_irrefl, h8, h7] <;> rfl)) | exact rfl); (first | (fail_if_success (show okD _ _ _ _ _ _ _ _ _)) | (first | exact okT | exact okN | exact okE rfl))) | refine thenQ_n ?_ | refine thenQ_r ?_ | refine thenQ_e ?_ | refine blockQ_n ?_ | refine blockQ_r ?_ | refine blockQ_e ?_ | (apply blockQ_o; (exact rfl)) | refine Awp.seq ?_ | refine Awp.skip ?_ | refine Awp.block ?_ | refine reg (fun s => false) ?_ | (apply drwE mixed (fun s => false); (kernel_rfl)) | refine fin ?_ | refine Awp.ret ?_ | refine Awp.exit ?_ | ((first | (apply off; (exact rfl)) | apply condF); (first | (focus (simp only [go_sem, ↓reduceIte, simprocAttr, Int.lt_irrefl, h8, h7] <;> rfl)) | exact rfl)))
    all_goals first | contradiction | (exfalso; omega) | skip
    exact bodyQ_mk (vs := [iv (-1)]) (.inr rfl) (by rw [Try.results98]; simp only [go_sem, ↓reduceIte, simprocAttr]) (Vs.refl _ _ _) (.inr ⟨rfl, hno, hI, hKb⟩)

end Go.Proofs.Ytlhchnnfgppneaa.Ab
namespace Go.Proofs.Ytlhchnnfgppneaa.Ab
open Go Go.RowKit Go.Proofs
set_option linter.unusedSimpArgs false
set_option linter.unusedVariables false
attribute [local irreducible] Awp wpO thenQ blockQ bodyQ ACalls stepA

def keepI (p : Int → Bool) (l : List Int) : List Int := l.filter fun x => !p x
theorem keepI_succ {p : Int → Bool} {l : List Int} {i : Nat} {x : Int} (hi : l[i]? = some x) : keepI p (l.take (i + 1)) = if p x then keepI p (l.take i) else keepI p (l.take i) ++ [x] := by
  unfold keepI
  rw [List.take_add_one, hi]
  cases h : p x <;> simp [h]
theorem keepI_all {p : Int → Bool} {l : List Int} {n : Nat} (h : ∀ j y, j < n → l[j]? = some y → p y = false) : keepI p (l.take n) = l.take n := by
  unfold keepI
  rw [List.filter_eq_self]
  intro x hx
  obtain ⟨j, hj⟩ := List.getElem?_of_mem hx
  rw [List.getElem?_take] at hj
  split at hj
  · rename_i hjn
    rw [h j x hjn hj]; rfl
  · cases hj
theorem setI_take {w : List Int} {k : Nat} {x : Int} (hk : k < w.length) : (w.set k x).take (k + 1) = w.take k ++ [x] := by
  rw [List.take_add_one, List.getElem?_set_self hk, List.take_set_of_le (Nat.le_refl _)]; rfl

set_option maxRecDepth 8000 in
set_option maxHeartbeats 4000000 in
theorem deleteI_ok {H : Hp} {b n : Nat} {u : List Int} {f : FuncId} {cap : List AV} {p : Int → Bool} {I : Nat → Hp → Prop} (hb : H[b]? = some (.cells (ints u) 2)) (hn : n ≤ u.length) (hm : n ≤ maxLen)
    (hf : AsksI f cap b (u.take n) p I) (hs : ∀ j K c, I j K → I j (K.set b c)) (h0 : I 0 H) : ACalls Try.prog 66 [.msl b 0 n, .fn (.func f) cap] H fun v1 K1 =>
      ∃ u', v1 = .msl b 0 (keepI p (u.take n)).length ∧ K1[b]? = some (.cells (ints u') 2) ∧ u'.length = u.length ∧ u'.take (keepI p (u.take n)).length = keepI p (u.take n) ∧ I n K1 := by
  refine ACalls.of_body Try.func66 rfl (by kernel_rfl) (by rw [Try.ntmps66]; simp) ?_; rw [Try.ntmps66]
  repeat' (first | refine spD (fun _ => ?_) (fun _ => ?_) | refine spF (fun _ => ?_) (fun _ => ?_) | (apply gT; (exact rfl)) | (apply off; (exact rfl); (exact rfl)) | (apply condT; (exact rfl)) | (apply condF; (exact rfl)) | ((first | (apply stp0; (exact rfl); (exact rfl)) | (apply stpN0; (exact rfl)) | apply gT | apply condT | ((first | apply bodyQ_d0 | apply bodyQ_d1 | apply bodyQ_d2 | apply bodyQ_d3 | apply bodyQ_d4); (exact .inr rfl); (rw [Try.results66]))); (first | (focus (simp only [go_sem, ↓reduceIte, simprocAttr] <;> rfl)) | exact rfl); (first | (fail_if_success (show okD _ _ _ _ _ _ _ _ _)) | (first | exact okT | exact okN | exact okE rfl)); (first | (fail_if_success (show Bel _ _)) | (focus first | exact .val _ | (simp [oneOf, Bel_iff_tup, Bel_iff_agg, Bel_iff_rsl, Bel_iff_fn, Bel_iff_rptr, Bel_val]; done)))) | refine thenQ_n ?_ | refine thenQ_r ?_ | refine thenQ_e ?_ | refine blockQ_n ?_ | refine blockQ_r ?_ | refine blockQ_e ?_ | (apply blockQ_o; (exact rfl)) | refine Awp.seq ?_ | refine Awp.skip ?_ | refine Awp.block ?_ | refine reg (fun s => false) ?_ | (apply drwE mixed (fun s => false); (kernel_rfl)) | refine fin ?_ | refine Awp.ret ?_ | refine Awp.exit ?_ | ((first | (apply off; (exact rfl)) | apply condF); (first | (focus (simp only [go_sem, ↓reduceIte, simprocAttr] <;> rfl)) | exact rfl)))
  refine cal rfl rfl rfl ?_ (show ACallV Try.prog (.fn (.func 98) []) [.msl b 0 n, .fn (.func f) cap] H _ from indexI_ok hb hn hm hf h0) ?_
  · (first | (focus (simp only [go_sem, ↓reduceIte, simprocAttr]; first | done | rfl)) | rfl)
  rintro v1 K1 (⟨i, x, hi, hx, hp, hno, rfl, hI, hbK⟩ | ⟨rfl, hno, hI, hbK⟩)
  · have hne : ¬ ((i : Int) = -1) := by omega
    have hsi := wsucc hi hm
    repeat' (first | refine spD (fun _ => ?_) (fun _ => ?_) | refine spF (fun _ => ?_) (fun _ => ?_) | (apply gT; (exact rfl)) | (apply off; (exact rfl); (exact rfl)) | (apply condT; (exact rfl)) | (apply condF; (exact rfl)) | ((first | (apply stp0; (exact rfl); (exact rfl)) | (apply stpN0; (exact rfl)) | apply gT | apply condT | ((first | apply bodyQ_d0 | apply bodyQ_d1 | apply bodyQ_d2 | apply bodyQ_d3 | apply bodyQ_d4); (exact .inr rfl); (rw [Try.results66]))); (first | (focus (simp only [go_sem, ↓reduceIte, simprocAttr, hne, hsi] <;> rfl)) | exact rfl); (first | (fail_if_success (show okD _ _ _ _ _ _ _ _ _)) | (first | exact okT | exact okN | exact okE rfl)); (first | (fail_if_success (show Bel _ _)) | (focus first | exact .val _ | (simp [oneOf, Bel_iff_tup, Bel_iff_agg, Bel_iff_rsl, Bel_iff_fn, Bel_iff_rptr, Bel_val]; done)))) | refine thenQ_n ?_ | refine thenQ_r ?_ | refine thenQ_e ?_ | refine blockQ_n ?_ | refine blockQ_r ?_ | refine blockQ_e ?_ | (apply blockQ_o; (exact rfl)) | refine Awp.seq ?_ | refine Awp.skip ?_ | refine Awp.block ?_ | refine reg (fun s => false) ?_ | (apply drwE mixed (fun s => false); (kernel_rfl)) | refine fin ?_ | refine Awp.ret ?_ | refine Awp.exit ?_ | ((first | (apply off; (exact rfl)) | apply condF); (first | (focus (simp only [go_sem, ↓reduceIte, simprocAttr, hne, hsi] <;> rfl)) | exact rfl)))
    all_goals first | contradiction | (exfalso; omega) | skip
    refine Awp.loop (ι := Nat) (fun j T' K => j ≤ n ∧ T' 6 = iv j ∧ T' 0 = .msl b 0 n ∧ T' 1 = .fn (.func f) cap ∧ I j K ∧ ∃ k w, T' 5 = iv (k : Nat) ∧ k = (keepI p (u.take j)).length ∧ k < j ∧ K[b]? = some (.cells (ints w) 2) ∧ w.length = u.length ∧ w.take k = keepI p (u.take j) ∧ ∀ l, j ≤ l → w[l]? = u[l]?) (fun j => n - j) (i + 1) ?_ ?_
    · refine ⟨hi, ?_, ?_, ?_, hI, i, u, ?_, ?_, Nat.lt_succ_self i, by rw [hbK]; exact hb, rfl, ?_, fun _ _ => rfl⟩
      · (first | (focus (simp only [go_sem, ↓reduceIte, simprocAttr, hsi]; first | done | rfl)) | rfl)
      · (first | (focus (simp only [go_sem, ↓reduceIte, simprocAttr]; first | done | rfl)) | rfl)
      · (first | (focus (simp only [go_sem, ↓reduceIte, simprocAttr]; first | done | rfl)) | rfl)
      · (first | (focus (simp only [go_sem, ↓reduceIte, simprocAttr]; first | done | rfl)) | rfl)
      · rw [keepI_succ hx, if_pos hp, keepI_all hno, List.length_take]; omega
      · rw [keepI_succ hx, if_pos hp, keepI_all hno]
    rintro j T K ⟨hj, t6, t0, t1, hI, k, w, t5, hk, hkj, hbw, hwl, hwt, hwd⟩
    have hwl2 := ints_len w
    by_cases hlt : j < n
    · obtain ⟨y, hy⟩ := nth (l := u) (i := j) (Nat.lt_of_lt_of_le hlt hn)
      have hyt : (u.take n)[j]? = some y := by rw [List.getElem?_take, if_pos hlt]; exact hy
      have hwj : (ints w)[j]? = some [iv y] := nthMap (fun x => [iv x]) (by rw [hwd j (Nat.le_refl _)]; exact hy)
      have hsu := wsucc hlt hm
      have hksn := wsucc (Nat.lt_trans hkj hlt) hm
      repeat' (first | refine spD (fun _ => ?_) (fun _ => ?_) | refine spF (fun _ => ?_) (fun _ => ?_) | (apply gT; (exact rfl)) | (apply off; (exact rfl); (exact rfl)) | (apply condT; (exact rfl)) | (apply condF; (exact rfl)) | ((first | (apply stp0; (exact rfl); (exact rfl)) | (apply stpN0; (exact rfl)) | apply gT | apply condT | ((first | apply bodyQ_d0 | apply bodyQ_d1 | apply bodyQ_d2 | apply bodyQ_d3 | apply bodyQ_d4); (exact .inr rfl); (rw [Try.results66]))); (first | (focus (simp only [go_sem, ↓reduceIte, simprocAttr, Int.ofNat_lt.2 hlt, t6, t0, t1, hbw, hwl2, hwj, hlt, Nat.zero_add] <;> rfl)) | exact rfl); (first | (fail_if_success (show okD _ _ _ _ _ _ _ _ _)) | (first | exact okT | exact okN | exact okE rfl)); (first | (fail_if_success (show Bel _ _)) | (focus first | exact .val _ | (simp [oneOf, Bel_iff_tup, Bel_iff_agg, Bel_iff_rsl, Bel_iff_fn, Bel_iff_rptr, Bel_val]; done)))) | refine thenQ_n ?_ | refine thenQ_r ?_ | refine thenQ_e ?_ | refine blockQ_n ?_ | refine blockQ_r ?_ | refine blockQ_e ?_ | (apply blockQ_o; (exact rfl)) | refine Awp.seq ?_ | refine Awp.skip ?_ | refine Awp.block ?_ | refine reg (fun s => false) ?_ | (apply drwE mixed (fun s => false); (kernel_rfl)) | refine fin ?_ | refine Awp.ret ?_ | refine Awp.exit ?_ | ((first | (apply off; (exact rfl)) | apply condF); (first | (focus (simp only [go_sem, ↓reduceIte, simprocAttr, Int.ofNat_lt.2 hlt, t6, t0, t1, hbw, hwl2, hwj, hlt, Nat.zero_add] <;> rfl)) | exact rfl)))
      all_goals first | contradiction | (exfalso; omega) | skip
      refine cal rfl rfl rfl ?_ (show ACallV Try.prog (.fn (.func f) cap) [iv y] K _ from hf j y K hyt hI) ?_
      · (first | (focus (simp only [go_sem, ↓reduceIte, simprocAttr, t1]; first | done | rfl)) | rfl)
      rintro v1 J ⟨rfl, hb1, hI1⟩
      have hbJ : J[b]? = some (.cells (ints w) 2) := by rw [hb1]; exact hbw
      cases hpy : p y with
      | true =>
        repeat' (first | refine spD (fun _ => ?_) (fun _ => ?_) | refine spF (fun _ => ?_) (fun _ => ?_) | (apply gT; (exact rfl)) | (apply off; (exact rfl); (exact rfl)) | (apply condT; (exact rfl)) | (apply condF; (exact rfl)) | ((first | (apply stp0; (exact rfl); (exact rfl)) | (apply stpN0; (exact rfl)) | apply gT | apply condT | ((first | apply bodyQ_d0 | apply bodyQ_d1 | apply bodyQ_d2 | apply bodyQ_d3 | apply bodyQ_d4); (exact .inr rfl); (rw [Try.results66]))); (first | (focus (simp only [go_sem, ↓reduceIte, simprocAttr, hsu, t6] <;> rfl)) | exact rfl); (first | (fail_if_success (show okD _ _ _ _ _ _ _ _ _)) | (first | exact okT | exact okN | exact okE rfl)); (first | (fail_if_success (show Bel _ _)) | (focus first | exact .val _ | (simp [oneOf, Bel_iff_tup, Bel_iff_agg, Bel_iff_rsl, Bel_iff_fn, Bel_iff_rptr, Bel_val]; done)))) | refine thenQ_n ?_ | refine thenQ_r ?_ | refine thenQ_e ?_ | refine blockQ_n ?_ | refine blockQ_r ?_ | refine blockQ_e ?_ | (apply blockQ_o; (exact rfl)) | refine Awp.seq ?_ | refine Awp.skip ?_ | refine Awp.block ?_ | refine reg (fun s => false) ?_ | (apply drwE mixed (fun s => false); (kernel_rfl)) | refine fin ?_ | refine Awp.ret ?_ | refine Awp.exit ?_ | ((first | (apply off; (exact rfl)) | apply condF); (first | (focus (simp only [go_sem, ↓reduceIte, simprocAttr, hsu, t6] <;> rfl)) | exact rfl)))
        all_goals first | contradiction | (exfalso; omega) | skip
        refine ⟨j + 1, ⟨hlt, ?_, ?_, ?_, hI1, k, w, ?_, ?_, Nat.lt_succ_of_lt hkj, hbJ, hwl, ?_, fun l hl => hwd l (Nat.le_of_succ_le hl)⟩, Nat.sub_lt_sub_left hlt (Nat.lt_succ_self j)⟩
        · (first | (focus (simp only [go_sem, ↓reduceIte, simprocAttr, hsu]; first | done | rfl)) | rfl)
        · (first | (focus (simp only [go_sem, ↓reduceIte, simprocAttr, t0]; first | done | rfl)) | rfl)
        · (first | (focus (simp only [go_sem, ↓reduceIte, simprocAttr, t1]; first | done | rfl)) | rfl)
        · (first | (focus (simp only [go_sem, ↓reduceIte, simprocAttr, t5]; first | done | rfl)) | rfl)
        · rw [keepI_succ hy, if_pos hpy]; exact hk
        · rw [keepI_succ hy, if_pos hpy]; exact hwt
      | false =>
        have hkw : k < w.length := by omega
        have hkn : k < n := Nat.lt_trans hkj hlt
        obtain ⟨z, hz⟩ := nth (l := w) (i := k) hkw
        have hwk : (ints w)[k]? = some [iv z] := nthMap (fun x => [iv x]) hz
        have hse : (ints w).set k [iv y] = ints (w.set k y) := by simp [ints, List.map_set]
        repeat' (first | refine spD (fun _ => ?_) (fun _ => ?_) | refine spF (fun _ => ?_) (fun _ => ?_) | (apply gT; (exact rfl)) | (apply off; (exact rfl); (exact rfl)) | (apply condT; (exact rfl)) | (apply condF; (exact rfl)) | ((first | (apply stp0; (exact rfl); (exact rfl)) | (apply stpN0; (exact rfl)) | apply gT | apply condT | ((first | apply bodyQ_d0 | apply bodyQ_d1 | apply bodyQ_d2 | apply bodyQ_d3 | apply bodyQ_d4); (exact .inr rfl); (rw [Try.results66]))); (first | (focus (simp only [go_sem, ↓reduceIte, simprocAttr, hsu, t6, t0, t5, hbJ, hwl2, hwk, hkn, hksn, hse, Nat.zero_add] <;> rfl)) | exact rfl); (first | (fail_if_success (show okD _ _ _ _ _ _ _ _ _)) | (first | exact okT | exact okN | exact okE rfl)); (first | (fail_if_success (show Bel _ _)) | (focus first | exact .val _ | (simp [oneOf, Bel_iff_tup, Bel_iff_agg, Bel_iff_rsl, Bel_iff_fn, Bel_iff_rptr, Bel_val]; done)))) | refine thenQ_n ?_ | refine thenQ_r ?_ | refine thenQ_e ?_ | refine blockQ_n ?_ | refine blockQ_r ?_ | refine blockQ_e ?_ | (apply blockQ_o; (exact rfl)) | refine Awp.seq ?_ | refine Awp.skip ?_ | refine Awp.block ?_ | refine reg (fun s => false) ?_ | (apply drwE mixed (fun s => false); (kernel_rfl)) | refine fin ?_ | refine Awp.ret ?_ | refine Awp.exit ?_ | ((first | (apply off; (exact rfl)) | apply condF); (first | (focus (simp only [go_sem, ↓reduceIte, simprocAttr, hsu, t6, t0, t5, hbJ, hwl2, hwk, hkn, hksn, hse, Nat.zero_add] <;> rfl)) | exact rfl)))
        all_goals first | contradiction | (exfalso; omega) | skip
        refine ⟨j + 1, ⟨hlt, ?_, ?_, ?_, hs _ _ _ hI1, k + 1, w.set k y, ?_, ?_, Nat.succ_lt_succ hkj, ?_, ?_, ?_, fun l hl => ?_⟩, Nat.sub_lt_sub_left hlt (Nat.lt_succ_self j)⟩
        · (first | (focus (simp only [go_sem, ↓reduceIte, simprocAttr, hsu]; first | done | rfl)) | rfl)
        · (first | (focus (simp only [go_sem, ↓reduceIte, simprocAttr, t0]; first | done | rfl)) | rfl)
        · (first | (focus (simp only [go_sem, ↓reduceIte, simprocAttr, t1]; first | done | rfl)) | rfl)
        · (first | (focus (simp only [go_sem, ↓reduceIte, simprocAttr, hksn]; first | done | rfl)) | rfl)
        · rw [keepI_succ hy, if_neg (by rw [hpy]; simp), List.length_append, ← hk]; rfl
        · exact (heldS hbJ).1 _
        · rw [List.length_set]; exact hwl
        · rw [keepI_succ hy, if_neg (by rw [hpy]; simp), setI_take hkw, hwt]
        · rw [List.getElem?_set_ne (by omega)]; exact hwd l (Nat.le_of_succ_le hl)
    · have hje : j = n := Nat.le_antisymm hj (Nat.not_lt.1 hlt)
      subst hje
      repeat' ((fail_if_success (apply stopR (id := 11))); (fail_if_success (apply stopS (id := 11))); first | refine spD (fun _ => ?_) (fun _ => ?_) | refine spF (fun _ => ?_) (fun _ => ?_) | (apply gT; (exact rfl)) | (apply off; (exact rfl); (exact rfl)) | (apply condT; (exact rfl)) | (apply condF; (exact rfl)) | ((first | (apply stp0; (exact rfl); (exact rfl)) | (apply stpN0; (exact rfl)) | apply gT | apply condT | ((first | apply bodyQ_d0 | apply bodyQ_d1 | apply bodyQ_d2 | apply bodyQ_d3 | apply bodyQ_d4); (exact .inr rfl); (rw [Try.results66]))); (first | (focus (simp only [go_sem, ↓reduceIte, simprocAttr, Int.lt_irrefl, t6, t0] <;> rfl)) | exact rfl); (first | (fail_if_success (show okD _ _ _ _ _ _ _ _ _)) | (first | exact okT | exact okN | exact okE rfl)); (first | (fail_if_success (show Bel _ _)) | (focus first | exact .val _ | (simp [oneOf, Bel_iff_tup, Bel_iff_agg, Bel_iff_rsl, Bel_iff_fn, Bel_iff_rptr, Bel_val]; done)))) | refine thenQ_n ?_ | refine thenQ_r ?_ | refine thenQ_e ?_ | refine blockQ_n ?_ | refine blockQ_r ?_ | refine blockQ_e ?_ | (apply blockQ_o; (exact rfl)) | refine Awp.seq ?_ | refine Awp.skip ?_ | refine Awp.block ?_ | refine reg (fun s => false) ?_ | (apply drwE mixed (fun s => false); (kernel_rfl)) | refine fin ?_ | refine Awp.ret ?_ | refine Awp.exit ?_ | ((first | (apply off; (exact rfl)) | apply condF); (first | (focus (simp only [go_sem, ↓reduceIte, simprocAttr, Int.lt_irrefl, t6, t0] <;> rfl)) | exact rfl)))
      all_goals first | contradiction | (exfalso; omega) | skip
      refine Awp.seq (Awp.regionW ⟨rfl, rfl, opMove rfl ⟨rfl, rfl, opMove rfl ⟨rfl, rfl, ?_⟩⟩⟩)
      refine opSliceLo (len := j) (lo := k) rfl (by exact t0) (by exact t5) hbw (by omega) hkj ?_
      refine ⟨rfl, rfl, opClear (lo := k) (m := j - k) rfl (by rfl) hbw (by omega) (by omega) fun v u' hul hut => ?_⟩
      refine thenQ_n ?_
      refine Awp.withT (fun T' => T' 0 = .msl b 0 j ∧ T' 5 = iv (k : Nat)) ⟨by exact t0, by exact t5⟩ ?_
      clear t0 t5 t6 t1
      rintro T2 ⟨t0, t5⟩
      have hbc := (heldS hbw).1 (.cells (ints u') 2)
      have hkn : k ≤ j := Nat.le_of_lt hkj
      repeat' (first | refine spD (fun _ => ?_) (fun _ => ?_) | refine spF (fun _ => ?_) (fun _ => ?_) | (apply gT; (exact rfl)) | (apply off; (exact rfl); (exact rfl)) | (apply condT; (exact rfl)) | (apply condF; (exact rfl)) | ((first | (apply stp0; (exact rfl); (exact rfl)) | (apply stpN0; (exact rfl)) | apply gT | apply condT); (first | (focus (simp only [go_sem, ↓reduceIte, simprocAttr, t0, t5, hkn] <;> rfl)) | exact rfl); (first | (fail_if_success (show okD _ _ _ _ _ _ _ _ _)) | (first | exact okT | exact okN | exact okE rfl))) | refine thenQ_n ?_ | refine thenQ_r ?_ | refine thenQ_e ?_ | refine blockQ_n ?_ | refine blockQ_r ?_ | refine blockQ_e ?_ | (apply blockQ_o; (exact rfl)) | refine Awp.seq ?_ | refine Awp.skip ?_ | refine Awp.block ?_ | refine reg (fun s => false) ?_ | (apply drwE mixed (fun s => false); (kernel_rfl)) | refine fin ?_ | refine Awp.ret ?_ | refine Awp.exit ?_ | ((first | (apply off; (exact rfl)) | apply condF); (first | (focus (simp only [go_sem, ↓reduceIte, simprocAttr, t0, t5, hkn] <;> rfl)) | exact rfl)))
      all_goals first | contradiction | (exfalso; omega) | skip
      refine bodyQ_mk (vs := [.msl b 0 k]) (.inr rfl) (by rw [Try.results66]; simp only [go_sem, ↓reduceIte, simprocAttr]) (Vs.refl _ _ _) ⟨u', by rw [← hk]; rfl, hbc, by rw [hul, hwl], ?_, hs _ _ _ hI⟩
      rw [← hk, hut, hwt]
  · repeat' (first | refine spD (fun _ => ?_) (fun _ => ?_) | refine spF (fun _ => ?_) (fun _ => ?_) | (apply gT; (exact rfl)) | (apply off; (exact rfl); (exact rfl)) | (apply condT; (exact rfl)) | (apply condF; (exact rfl)) | ((first | (apply stp0; (exact rfl); (exact rfl)) | (apply stpN0; (exact rfl)) | apply gT | apply condT); (first | (focus (simp only [go_sem, ↓reduceIte, simprocAttr] <;> rfl)) | exact rfl); (first | (fail_if_success (show okD _ _ _ _ _ _ _ _ _)) | (first | exact okT | exact okN | exact okE rfl))) | refine thenQ_n ?_ | refine thenQ_r ?_ | refine thenQ_e ?_ | refine blockQ_n ?_ | refine blockQ_r ?_ | refine blockQ_e ?_ | (apply blockQ_o; (exact rfl)) | refine Awp.seq ?_ | refine Awp.skip ?_ | refine Awp.block ?_ | refine reg (fun s => false) ?_ | (apply drwE mixed (fun s => false); (kernel_rfl)) | refine fin ?_ | refine Awp.ret ?_ | refine Awp.exit ?_ | ((first | (apply off; (exact rfl)) | apply condF); (first | (focus (simp only [go_sem, ↓reduceIte, simprocAttr] <;> rfl)) | exact rfl)))
    all_goals first | contradiction | (exfalso; omega) | skip
    have e := keepI_all hno
    have e2 : (u.take n).length = n := by rw [List.length_take]; omega
    exact bodyQ_mk (vs := [.msl b 0 n]) (.inr rfl) (by rw [Try.results66]; simp only [go_sem, ↓reduceIte, simprocAttr]) (Vs.refl _ _ _) ⟨u, by rw [e, e2]; rfl, by rw [hbK]; exact hb, rfl, by rw [e, e2], hI⟩

end Go.Proofs.Ytlhchnnfgppneaa.Ab
