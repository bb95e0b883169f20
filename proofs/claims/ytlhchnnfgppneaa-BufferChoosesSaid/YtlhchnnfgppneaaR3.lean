/- Best: subsets. -/
import Derived.Test.YtlhchnnfgppneaaR2
namespace Go.Proofs.Ytlhchnnfgppneaa.Ab
open Go Go.RowKit Go.Proofs
set_option linter.unusedSimpArgs false
set_option linter.unusedVariables false
attribute [local irreducible] Awp wpO thenQ blockQ bodyQ ACalls stepA

theorem plainChs (v : List Ch) : Plain (chs v) := by
  intro e he a ha
  obtain ⟨c, _, rfl⟩ := List.mem_map.1 he
  simp [Ch.cs, u32v] at ha
  rcases ha with rfl | rfl | rfl <;> exact ⟨_, rfl⟩

set_option maxRecDepth 8000 in
theorem subs_pre (H : Hp) (l : List Pr) (ex : Bool) (high : Nat) (hpl : ∀ p ∈ l, p.ok) (hl : l.length ≤ 12) (hh : l.length ≤ high + 1) (hh2 : high ≤ 23) :
    ACalls Try.prog 107 [iv (0 : Nat), .agg [.val (.int .u32 (0 : Nat)), iv 0, iv 0], .rptr [.rsl (prs l) ex] 0, .mptr H.length 0 0, .mptr (H ++ [AObj.cells [[nilS]] 141]).length 0 0, .rptr [iv high] 0] (H ++ [.cells [[nilS]] 141] ++ [.cells [[.fn (.func 107) [.rptr [.rsl (prs l) ex] 0, .mptr H.length 0 0, .mptr (H ++ [AObj.cells [[nilS]] 141]).length 0 0, .rptr [iv high] 0]]] 171]) fun v1 K => v1 = .tup [] ∧ Grow H K ∧ ∃ a, K[H.length]? = some (.cells [[a]] 141) ∧ (∃ b n, a = .msl b 0 n) ∧ Own H.length 145 K a (chs (subs l high ⟨0, 0, 0⟩)) := by
  have h1 : 2 ^ l.length ≤ 2 ^ 12 := Nat.pow_le_pow_right (by omega) hl
  have hl1 : (H ++ [AObj.cells [[nilS]] 141]).length = H.length + 1 := by simp
  refine (walk_ok l ex high H.length (H ++ [AObj.cells [[nilS]] 141]).length (H.length + 2) hpl hl hh hh2 (by omega) (by omega) (by omega) l.length 0 ⟨0, 0, 0⟩ _ nilS [] (by omega) (by omega) ⟨by simp, by decide, ⟨by decide, by simp only; omega⟩, ⟨by decide, by simp only; omega⟩⟩ (by simpa using h1) (by simp) ?_ .nil ?_).mono ?_
  · exact get_new2 _ _ _
  · exact get_new (H ++ [AObj.cells [[nilS]] 141]) (.cells [[.fn (.func 107) (capW l ex H.length (H ++ [AObj.cells [[nilS]] 141]).length high)]] 171)
  · rintro v1 K ⟨rfl, hlo, hF, a, ha, hm, hO⟩
    refine ⟨rfl, ⟨by omega, fun j hj => ?_⟩, a, ha, hm, (show Own H.length 145 K a (chs (subs l high ⟨0, 0, 0⟩)) from Own.low hO (by omega))⟩
    rw [hF j (by omega) (by omega), List.append_assoc, List.getElem?_append_left hj]

set_option maxRecDepth 8000 in
theorem subs_ok (H : Hp) (l : List Pr) (ex : Bool) (high : Nat) (hpl : ∀ p ∈ l, p.ok) (hl : l.length ≤ 12) (hh : l.length ≤ high + 1) (hh2 : high ≤ 23) :
    CallsTo Try.prog 80 [.rsl (prs l) ex, iv high] H (.rsl (chs (subs l high ⟨0, 0, 0⟩)) false) H := by
  have hp := subs_pre H l ex high hpl hl hh hh2
  refine ACalls.of_body Try.func80 rfl (by kernel_rfl) (by rw [Try.ntmps80]; simp) ?_; rw [Try.ntmps80]
  repeat' (first | refine spD (fun _ => ?_) (fun _ => ?_) | refine spF (fun _ => ?_) (fun _ => ?_) | (apply gT; (exact rfl)) | (apply off; (exact rfl); (exact rfl)) | (apply condT; (exact rfl)) | (apply condF; (exact rfl)) | ((first | (apply stp0; (exact rfl); (exact rfl)) | (apply stpN0; (exact rfl)) | apply gT | apply condT | ((first | apply bodyQ_d0 | apply bodyQ_d1 | apply bodyQ_d2 | apply bodyQ_d3 | apply bodyQ_d4); (exact .inr rfl); (rw [Try.results80]))); (first | (focus (simp only [go_sem, ↓reduceIte, simprocAttr] <;> rfl)) | exact rfl); (first | (fail_if_success (show okD _ _ _ _ _ _ _ _ _)) | (first | exact okT | exact okN | exact okE rfl)); (first | (fail_if_success (show Bel _ _)) | (focus first | exact .val _ | (simp [oneOf, Bel_iff_tup, Bel_iff_agg, Bel_iff_rsl, Bel_iff_fn, Bel_iff_rptr, Bel_val]; done)))) | refine thenQ_n ?_ | refine thenQ_r ?_ | refine thenQ_e ?_ | refine blockQ_n ?_ | refine blockQ_r ?_ | refine blockQ_e ?_ | (apply blockQ_o; (exact rfl)) | refine Awp.seq ?_ | refine Awp.skip ?_ | refine Awp.block ?_ | refine reg (fun s => s == 5 || s == 6) ?_ | (apply drwE mixed (fun s => s == 5 || s == 6); (kernel_rfl)) | refine fin ?_ | refine Awp.ret ?_ | refine Awp.exit ?_ | ((first | (apply off; (exact rfl)) | apply condF); (first | (focus (simp only [go_sem, ↓reduceIte, simprocAttr] <;> rfl)) | exact rfl)))
  all_goals first | contradiction | skip
  refine cal rfl rfl rfl ?_ (show ACallV Try.prog (.fn (.func 107) [.rptr [.rsl (prs l) ex] 0, .mptr H.length 0 0, .mptr (H ++ [AObj.cells [[nilS]] 141]).length 0 0, .rptr [iv high] 0]) [iv (0 : Nat), .agg [.val (.int .u32 (0 : Nat)), iv 0, iv 0]] _ _ from hp) ?_
  · (first | (focus (simp only [go_sem, ↓reduceIte, simprocAttr]; first | done | rfl)) | rfl)
  rintro v1 K ⟨rfl, hG, a, ha, hm, hO⟩
  repeat' (first | refine spD (fun _ => ?_) (fun _ => ?_) | refine spF (fun _ => ?_) (fun _ => ?_) | (apply gT; (exact rfl)) | (apply off; (exact rfl); (exact rfl)) | (apply condT; (exact rfl)) | (apply condF; (exact rfl)) | ((first | (apply stp0; (exact rfl); (exact rfl)) | (apply stpN0; (exact rfl)) | apply gT | apply condT); (first | (focus (simp only [go_sem, ↓reduceIte, simprocAttr, ha] <;> rfl)) | exact rfl); (first | (fail_if_success (show okD _ _ _ _ _ _ _ _ _)) | (first | exact okT | exact okN | exact okE rfl))) | refine thenQ_n ?_ | refine thenQ_r ?_ | refine thenQ_e ?_ | refine blockQ_n ?_ | refine blockQ_r ?_ | refine blockQ_e ?_ | (apply blockQ_o; (exact rfl)) | refine Awp.seq ?_ | refine Awp.skip ?_ | refine Awp.block ?_ | refine reg (fun s => s == 5 || s == 6) ?_ | (apply drwE mixed (fun s => s == 5 || s == 6); (kernel_rfl)) | refine fin ?_ | refine Awp.ret ?_ | refine Awp.exit ?_ | ((first | (apply off; (exact rfl)) | apply condF); (first | (focus (simp only [go_sem, ↓reduceIte, simprocAttr, ha] <;> rfl)) | exact rfl)))
  all_goals first | contradiction | skip
  exact bodyQ_own (.inr rfl) (by rw [Try.results80]; first | (simp only [go_sem, ↓reduceIte, simprocAttr]; done) | (simp only [go_sem, ↓reduceIte, simprocAttr]; rfl)) hG hO (plainChs _)

set_option maxRecDepth 8000 in
theorem subs_own (H : Hp) (l : List Pr) (ex : Bool) (high : Nat) (hpl : ∀ p ∈ l, p.ok) (hl : l.length ≤ 12) (hh : l.length ≤ high + 1) (hh2 : high ≤ 23) :
    ACalls Try.prog 80 [.rsl (prs l) ex, iv high] H fun v1 K => Grow H K ∧ ∃ b, H.length ≤ b ∧ v1 = .msl b 0 (subs l high ⟨0, 0, 0⟩).length ∧ K[b]? = some (.cells (chs (subs l high ⟨0, 0, 0⟩)) 145) := by
  have hp := subs_pre H l ex high hpl hl hh hh2
  have hne : chs (subs l high ⟨0, 0, 0⟩) ≠ [] := fun e => by
    have := congrArg List.length e
    rw [chs_len, subs_len] at this
    have := Nat.two_pow_pos l.length
    have h0 : ([] : List (List AV)).length = 0 := rfl
    omega
  have hcl := chs_len (subs l high ⟨0, 0, 0⟩)
  refine ACalls.of_body Try.func80 rfl (by kernel_rfl) (by rw [Try.ntmps80]; simp) ?_; rw [Try.ntmps80]
  repeat' (first | refine spD (fun _ => ?_) (fun _ => ?_) | refine spF (fun _ => ?_) (fun _ => ?_) | (apply gT; (exact rfl)) | (apply off; (exact rfl); (exact rfl)) | (apply condT; (exact rfl)) | (apply condF; (exact rfl)) | ((first | (apply stp0; (exact rfl); (exact rfl)) | (apply stpN0; (exact rfl)) | apply gT | apply condT | ((first | apply bodyQ_d0 | apply bodyQ_d1 | apply bodyQ_d2 | apply bodyQ_d3 | apply bodyQ_d4); (exact .inr rfl); (rw [Try.results80]))); (first | (focus (simp only [go_sem, ↓reduceIte, simprocAttr] <;> rfl)) | exact rfl); (first | (fail_if_success (show okD _ _ _ _ _ _ _ _ _)) | (first | exact okT | exact okN | exact okE rfl)); (first | (fail_if_success (show Bel _ _)) | (focus first | exact .val _ | (simp [oneOf, Bel_iff_tup, Bel_iff_agg, Bel_iff_rsl, Bel_iff_fn, Bel_iff_rptr, Bel_val]; done)))) | refine thenQ_n ?_ | refine thenQ_r ?_ | refine thenQ_e ?_ | refine blockQ_n ?_ | refine blockQ_r ?_ | refine blockQ_e ?_ | (apply blockQ_o; (exact rfl)) | refine Awp.seq ?_ | refine Awp.skip ?_ | refine Awp.block ?_ | refine reg (fun s => s == 5 || s == 6) ?_ | (apply drwE mixed (fun s => s == 5 || s == 6); (kernel_rfl)) | refine fin ?_ | refine Awp.ret ?_ | refine Awp.exit ?_ | ((first | (apply off; (exact rfl)) | apply condF); (first | (focus (simp only [go_sem, ↓reduceIte, simprocAttr] <;> rfl)) | exact rfl)))
  all_goals first | contradiction | skip
  refine cal rfl rfl rfl ?_ (show ACallV Try.prog (.fn (.func 107) [.rptr [.rsl (prs l) ex] 0, .mptr H.length 0 0, .mptr (H ++ [AObj.cells [[nilS]] 141]).length 0 0, .rptr [iv high] 0]) [iv (0 : Nat), .agg [.val (.int .u32 (0 : Nat)), iv 0, iv 0]] _ _ from hp) ?_
  · (first | (focus (simp only [go_sem, ↓reduceIte, simprocAttr]; first | done | rfl)) | rfl)
  rintro v1 K ⟨rfl, hG, a, ha, hm, hO⟩
  repeat' (first | refine spD (fun _ => ?_) (fun _ => ?_) | refine spF (fun _ => ?_) (fun _ => ?_) | (apply gT; (exact rfl)) | (apply off; (exact rfl); (exact rfl)) | (apply condT; (exact rfl)) | (apply condF; (exact rfl)) | ((first | (apply stp0; (exact rfl); (exact rfl)) | (apply stpN0; (exact rfl)) | apply gT | apply condT); (first | (focus (simp only [go_sem, ↓reduceIte, simprocAttr, ha] <;> rfl)) | exact rfl); (first | (fail_if_success (show okD _ _ _ _ _ _ _ _ _)) | (first | exact okT | exact okN | exact okE rfl))) | refine thenQ_n ?_ | refine thenQ_r ?_ | refine thenQ_e ?_ | refine blockQ_n ?_ | refine blockQ_r ?_ | refine blockQ_e ?_ | (apply blockQ_o; (exact rfl)) | refine Awp.seq ?_ | refine Awp.skip ?_ | refine Awp.block ?_ | refine reg (fun s => s == 5 || s == 6) ?_ | (apply drwE mixed (fun s => s == 5 || s == 6); (kernel_rfl)) | refine fin ?_ | refine Awp.ret ?_ | refine Awp.exit ?_ | ((first | (apply off; (exact rfl)) | apply condF); (first | (focus (simp only [go_sem, ↓reduceIte, simprocAttr, ha] <;> rfl)) | exact rfl)))
  all_goals first | contradiction | skip
  generalize chs (subs l high ⟨0, 0, 0⟩) = es at *
  cases hO with
  | nil => exact absurd rfl hne
  | fix => obtain ⟨_, _, e⟩ := hm; cases e
  | row hn hlo hb => exact bodyQ_mk (vs := [_]) (.inr rfl) (by rw [Try.results80]; first | (simp only [go_sem, ↓reduceIte, simprocAttr]; done) | (simp only [go_sem, ↓reduceIte, simprocAttr]; rfl)) (Vs.refl _ _ _) ⟨hG, _, hlo, by rw [← hcl]; rfl, hb⟩

end Go.Proofs.Ytlhchnnfgppneaa.Ab
