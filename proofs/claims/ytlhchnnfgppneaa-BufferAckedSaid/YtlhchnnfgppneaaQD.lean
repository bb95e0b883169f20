/- The program's Ack, its closure. -/
import Derived.Test.YtlhchnnfgppneaaQC
namespace Go.Proofs.Ytlhchnnfgppneaa.Ab
open Go Go.RowKit Go.Proofs
set_option linter.unusedSimpArgs false
set_option linter.unusedVariables false
attribute [local irreducible] Awp wpO thenQ blockQ bodyQ ACalls stepA

set_option maxRecDepth 8000 in
theorem ack1_ok {H : Hp} {F : Ft} {w : Rw} (hR : RepW H F w) (s : List (Int × Int)) (ex : Bool) (hc : setC s = 0) (hm : s.length ≤ maxLen) (id : Int) (r : Item) (sm : Int) (h1 : (getM w.kr id).getD recZ = .agg r.cs) (h2 : (getM w.ks id).getD (iv 0) = iv sm)
    (hu : -1099511627776 ≤ w.used - (if sm > 0 then r.pk else r.size) ∧ w.used - (if sm > 0 then r.pk else r.size) ≤ 1099511627776) :
    ACalls Try.prog 67 [iv id, .rptr [.rsl (sps s) ex] 0, .rptr [.mptr F.b 0 0] 0] H fun v1 H1 => v1 = bv (isInB s id) ∧ (isInB s id = true → RepW H1 F { w with used := w.used - (if sm > 0 then r.pk else r.size), kr := delM id w.kr, ks := delM id w.ks, kt := delM id w.kt } ∧ Fr F H H1) ∧ (isInB s id = false → H1 = H) := by
  have hh := fun H => bhas_ok H s ex hc hm id
  have hrm := remove_ok hR id r sm h1 h2 hu
  cases e : isInB s id with
  | true =>
    rw [e] at hh
    refine ACalls.of_body Try.func67 rfl (by kernel_rfl) (by rw [Try.ntmps67]; simp) ?_; rw [Try.ntmps67]
    repeat' (first | refine spD (fun _ => ?_) (fun _ => ?_) | refine spF (fun _ => ?_) (fun _ => ?_) | (apply gT; (exact rfl)) | (apply off; (exact rfl); (exact rfl)) | (apply condT; (exact rfl)) | (apply condF; (exact rfl)) | ((first | (apply stp0; (exact rfl); (exact rfl)) | (apply stpN0; (exact rfl)) | apply gT | apply condT | ((first | apply bodyQ_d0 | apply bodyQ_d1 | apply bodyQ_d2 | apply bodyQ_d3 | apply bodyQ_d4); (exact .inr rfl); (rw [Try.results67]))); (first | (focus (simp only [go_sem, ↓reduceIte, simprocAttr] <;> rfl)) | exact rfl); (first | (fail_if_success (show okD _ _ _ _ _ _ _ _ _)) | (first | exact okT | exact okN | exact okE rfl)); (first | (fail_if_success (show Bel _ _)) | (focus first | exact .val _ | (simp [oneOf, Bel_iff_tup, Bel_iff_agg, Bel_iff_rsl, Bel_iff_fn, Bel_iff_rptr, Bel_val]; done)))) | (apply calTo0; (exact rfl); (iterate 2 (simp only [go_sem, ↓reduceIte, simprocAttr]; rfl)); (first | exact hh _); (first | exact okT | exact okN | exact okE rfl)) | refine thenQ_n ?_ | refine thenQ_r ?_ | refine thenQ_e ?_ | refine blockQ_n ?_ | refine blockQ_r ?_ | refine blockQ_e ?_ | (apply blockQ_o; (exact rfl)) | refine Awp.seq ?_ | refine Awp.skip ?_ | refine Awp.block ?_ | refine reg (fun s => false) ?_ | (apply drwE mixed (fun s => false); (kernel_rfl)) | refine fin ?_ | refine Awp.ret ?_ | refine Awp.exit ?_ | ((first | (apply off; (exact rfl)) | apply condF); (first | (focus (simp only [go_sem, ↓reduceIte, simprocAttr] <;> rfl)) | exact rfl)))
    all_goals first | contradiction | (exfalso; omega) | skip
    refine cal rfl rfl rfl ?_ (show ACallV Try.prog (.fn (.func 61) []) [.mptr F.b 0 0, iv id] H _ from hrm) ?_
    · (first | (focus (simp only [go_sem, ↓reduceIte, simprocAttr]; first | done | rfl)) | rfl)
    rintro v1 K ⟨rfl, hR2, hF⟩
    repeat' (first | refine spD (fun _ => ?_) (fun _ => ?_) | refine spF (fun _ => ?_) (fun _ => ?_) | (apply gT; (exact rfl)) | (apply off; (exact rfl); (exact rfl)) | (apply condT; (exact rfl)) | (apply condF; (exact rfl)) | ((first | (apply stp0; (exact rfl); (exact rfl)) | (apply stpN0; (exact rfl)) | apply gT | apply condT); (first | (focus (simp only [go_sem, ↓reduceIte, simprocAttr] <;> rfl)) | exact rfl); (first | (fail_if_success (show okD _ _ _ _ _ _ _ _ _)) | (first | exact okT | exact okN | exact okE rfl))) | refine thenQ_n ?_ | refine thenQ_r ?_ | refine thenQ_e ?_ | refine blockQ_n ?_ | refine blockQ_r ?_ | refine blockQ_e ?_ | (apply blockQ_o; (exact rfl)) | refine Awp.seq ?_ | refine Awp.skip ?_ | refine Awp.block ?_ | refine reg (fun s => false) ?_ | (apply drwE mixed (fun s => false); (kernel_rfl)) | refine fin ?_ | refine Awp.ret ?_ | refine Awp.exit ?_ | ((first | (apply off; (exact rfl)) | apply condF); (first | (focus (simp only [go_sem, ↓reduceIte, simprocAttr] <;> rfl)) | exact rfl)))
    all_goals first | contradiction | (exfalso; omega) | skip
    exact bodyQ_mk (vs := [bv true]) (.inr rfl) (by rw [Try.results67]; simp only [go_sem, ↓reduceIte, simprocAttr]) (Vs.refl _ _ _) ⟨rfl, fun _ => ⟨hR2, hF⟩, (fun h => by cases h)⟩
  | false =>
    rw [e] at hh
    refine ACalls.of_body Try.func67 rfl (by kernel_rfl) (by rw [Try.ntmps67]; simp) ?_; rw [Try.ntmps67]
    repeat' (first | refine spD (fun _ => ?_) (fun _ => ?_) | refine spF (fun _ => ?_) (fun _ => ?_) | (apply gT; (exact rfl)) | (apply off; (exact rfl); (exact rfl)) | (apply condT; (exact rfl)) | (apply condF; (exact rfl)) | ((first | (apply stp0; (exact rfl); (exact rfl)) | (apply stpN0; (exact rfl)) | apply gT | apply condT); (first | (focus (simp only [go_sem, ↓reduceIte, simprocAttr] <;> rfl)) | exact rfl); (first | (fail_if_success (show okD _ _ _ _ _ _ _ _ _)) | (first | exact okT | exact okN | exact okE rfl))) | (apply calTo0; (exact rfl); (iterate 2 (simp only [go_sem, ↓reduceIte, simprocAttr]; rfl)); (first | exact hh _); (first | exact okT | exact okN | exact okE rfl)) | refine thenQ_n ?_ | refine thenQ_r ?_ | refine thenQ_e ?_ | refine blockQ_n ?_ | refine blockQ_r ?_ | refine blockQ_e ?_ | (apply blockQ_o; (exact rfl)) | refine Awp.seq ?_ | refine Awp.skip ?_ | refine Awp.block ?_ | refine reg (fun s => false) ?_ | (apply drwE mixed (fun s => false); (kernel_rfl)) | refine fin ?_ | refine Awp.ret ?_ | refine Awp.exit ?_ | ((first | (apply off; (exact rfl)) | apply condF); (first | (focus (simp only [go_sem, ↓reduceIte, simprocAttr] <;> rfl)) | exact rfl)))
    all_goals first | contradiction | (exfalso; omega) | skip
    exact bodyQ_mk (vs := [bv false]) (.inr rfl) (by rw [Try.results67]; simp only [go_sem, ↓reduceIte, simprocAttr]) (Vs.refl _ _ _) ⟨rfl, (fun h => by cases h), fun _ => rfl⟩

end Go.Proofs.Ytlhchnnfgppneaa.Ab
