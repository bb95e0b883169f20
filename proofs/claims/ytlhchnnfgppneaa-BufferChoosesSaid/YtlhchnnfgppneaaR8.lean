/- Best: a copy of a row; the beginning of the walk. -/
import Derived.Test.YtlhchnnfgppneaaR3
import Derived.Test.YtlhchnnfgppneaaR6
import Derived.Test.YtlhchnnfgppneaaR7
import Derived.Test.YtlhchnnfgppneaaR1
namespace Go.Proofs.Ytlhchnnfgppneaa.Ab
open Go Go.RowKit Go.Proofs
set_option linter.unusedSimpArgs false
set_option linter.unusedVariables false
attribute [local irreducible] Awp wpO thenQ blockQ bodyQ ACalls stepA

theorem perf_call {P : Program} {mu : Nat → Bool} {s : Nat} {f : Operand} {args : Array Operand} {aT : Array TypeId} {ty : TypeId} {pos : String} {aft} {T : Env} {v : AV} {H2 : Hp} {k' : FuncId} {as' : List AV}
    (hf : evA T f = .fn (.func k') []) (ha : args.toList.map (evA T) ++ [] = as') (h : CallsTo P k' as' H2 v H2) : PerfTo P mu ⟨some s, .call ⟨.value f, args, aT⟩, ty, pos, aft, none⟩ T H2 v H2 := by
  subst ha
  show ACallV P (evA T f) (args.toList.map (evA T)) H2 (fun v1 H1 => v1 = v ∧ H1 = H2)
  rw [hf]; exact h

set_option maxRecDepth 8000 in
theorem clone84_ok (H : Hp) (L : List Ch) {b : Nat} (hn : 0 < L.length) (hlen : L.length ≤ 4096) (hb : H[b]? = some (.cells (chs L) 145)) :
    CallsTo Try.prog 84 [.msl b 0 L.length] H (.msl H.length 0 L.length) (H ++ [.cells (chs L) 145]) := by
  have hvl := chs_len L
  have hall : (chs L).all (fun e => e.length == 3) = true := by rw [List.all_eq_true]; intro e he; simpa using chs_three L e he
  have htk : (chs L).take L.length = chs L := by rw [← hvl]; exact List.take_length
  have hne : ¬ L.length = 0 := by omega
  have hbig : L.length * 24 ≤ 140737488355328 := by omega
  refine ACalls.of_body Try.func84 rfl (by kernel_rfl) (by rw [Try.ntmps84]; simp) ?_; rw [Try.ntmps84]
  repeat' (first | refine spD (fun _ => ?_) (fun _ => ?_) | refine spF (fun _ => ?_) (fun _ => ?_) | (apply gT; (exact rfl)) | (apply off; (exact rfl); (exact rfl)) | (apply condT; (exact rfl)) | (apply condF; (exact rfl)) | ((first | (apply stp0; (exact rfl); (exact rfl)) | (apply stpN0; (exact rfl)) | apply gT | apply condT); (first | (focus (simp only [go_sem, ↓reduceIte, simprocAttr, hb, hvl, hall, htk, hne, hbig, Nat.zero_add, Nat.le_refl, List.drop_zero, and_self, List.nil_append] <;> rfl)) | exact rfl); (first | (fail_if_success (show okD _ _ _ _ _ _ _ _ _)) | (first | exact okT | exact okN | exact okE rfl))) | refine thenQ_n ?_ | refine thenQ_r ?_ | refine thenQ_e ?_ | refine blockQ_n ?_ | refine blockQ_r ?_ | refine blockQ_e ?_ | (apply blockQ_o; (exact rfl)) | refine Awp.seq ?_ | refine Awp.skip ?_ | refine Awp.block ?_ | refine reg (fun s => false) ?_ | (apply drwE mixed (fun s => false); (kernel_rfl)) | refine fin ?_ | refine Awp.ret ?_ | refine Awp.exit ?_ | ((first | (apply off; (exact rfl)) | apply condF); (first | (focus (simp only [go_sem, ↓reduceIte, simprocAttr, hb, hvl, hall, htk, hne, hbig, Nat.zero_add, Nat.le_refl, List.drop_zero, and_self, List.nil_append] <;> rfl)) | exact rfl)))
  all_goals first | contradiction | (exfalso; omega) | skip
  exact bodyQ_mk (vs := [.msl H.length 0 L.length]) (.inr rfl) (by rw [Try.results84]; first | (simp only [go_sem, ↓reduceIte, simprocAttr]; done) | (simp only [go_sem, ↓reduceIte, simprocAttr]; rfl)) (Vs.refl _ _ _) ⟨rfl, rfl⟩

theorem bestMany (H : Hp) (l : List Pr) (ex : Bool) (room : Int) (h : 24 < l.length) : CallsTo Try.prog 45 [.rsl (prs l) ex, iv room] H (.tup [nilS, iv 0, iv 6]) H := by
  have hpl := prs_len l
  have hg : (l.length : Int) > 24 := by omega
  refine ACalls.of_body Try.func45 rfl (by kernel_rfl) (by rw [Try.ntmps45]; simp) ?_; rw [Try.ntmps45]
  repeat' (first | refine spD (fun _ => ?_) (fun _ => ?_) | refine spF (fun _ => ?_) (fun _ => ?_) | (apply gT; (exact rfl)) | (apply off; (exact rfl); (exact rfl)) | (apply condT; (exact rfl)) | (apply condF; (exact rfl)) | ((first | (apply stp0; (exact rfl); (exact rfl)) | (apply stpN0; (exact rfl)) | apply gT | apply condT); (first | (focus (simp only [go_sem, ↓reduceIte, simprocAttr, hpl, hg] <;> rfl)) | exact rfl); (first | (fail_if_success (show okD _ _ _ _ _ _ _ _ _)) | (first | exact okT | exact okN | exact okE rfl))) | refine thenQ_n ?_ | refine thenQ_r ?_ | refine thenQ_e ?_ | refine blockQ_n ?_ | refine blockQ_r ?_ | refine blockQ_e ?_ | (apply blockQ_o; (exact rfl)) | refine Awp.seq ?_ | refine Awp.skip ?_ | refine Awp.block ?_ | refine reg (fun s => s == 12 || s == 14 || s == 17 || s == 18) ?_ | (apply drwE mixed (fun s => s == 12 || s == 14 || s == 17 || s == 18); (kernel_rfl)) | refine fin ?_ | refine Awp.ret ?_ | refine Awp.exit ?_ | ((first | (apply off; (exact rfl)) | apply condF); (first | (focus (simp only [go_sem, ↓reduceIte, simprocAttr, hpl, hg] <;> rfl)) | exact rfl)))
  all_goals first | contradiction | skip
  exact bodyQ_mk (vs := [nilS, iv 0, iv 6]) (.inr rfl) (by rw [Try.results45]; first | (simp only [go_sem, ↓reduceIte, simprocAttr]; done) | (simp only [go_sem, ↓reduceIte, simprocAttr]; rfl)) (Vs.refl _ _ _) ⟨rfl, rfl⟩
theorem bestBad (H : Hp) (l : List Pr) (ex : Bool) (room : Int) (h : l.length ≤ 24) (hb : l.any badP = true) : CallsTo Try.prog 45 [.rsl (prs l) ex, iv room] H (.tup [nilS, iv 0, iv 2]) H := by
  have hpl := prs_len l
  have hg : ¬ (l.length : Int) > 24 := by omega
  have hc := containsP_ok H l ex (by simp only [maxLen]; omega)
  rw [hb] at hc
  refine ACalls.of_body Try.func45 rfl (by kernel_rfl) (by rw [Try.ntmps45]; simp) ?_; rw [Try.ntmps45]
  repeat' (first | refine spD (fun _ => ?_) (fun _ => ?_) | refine spF (fun _ => ?_) (fun _ => ?_) | (apply gT; (exact rfl)) | (apply off; (exact rfl); (exact rfl)) | (apply condT; (exact rfl)) | (apply condF; (exact rfl)) | ((first | (apply stp0; (exact rfl); (exact rfl)) | (apply stpN0; (exact rfl)) | apply gT | apply condT); (first | (focus (simp only [go_sem, ↓reduceIte, simprocAttr, hpl, hg] <;> rfl)) | exact rfl); (first | (fail_if_success (show okD _ _ _ _ _ _ _ _ _)) | (first | exact okT | exact okN | exact okE rfl))) | (apply calTo0; (exact rfl); (iterate 2 (simp only [go_sem, ↓reduceIte, simprocAttr, hpl, hg]; rfl)); (first | exact hc); (first | exact okT | exact okN | exact okE rfl)) | refine thenQ_n ?_ | refine thenQ_r ?_ | refine thenQ_e ?_ | refine blockQ_n ?_ | refine blockQ_r ?_ | refine blockQ_e ?_ | (apply blockQ_o; (exact rfl)) | refine Awp.seq ?_ | refine Awp.skip ?_ | refine Awp.block ?_ | refine reg (fun s => s == 12 || s == 14 || s == 17 || s == 18) ?_ | (apply drwE mixed (fun s => s == 12 || s == 14 || s == 17 || s == 18); (kernel_rfl)) | refine fin ?_ | refine Awp.ret ?_ | refine Awp.exit ?_ | ((first | (apply off; (exact rfl)) | apply condF); (first | (focus (simp only [go_sem, ↓reduceIte, simprocAttr, hpl, hg] <;> rfl)) | exact rfl)))
  all_goals first | contradiction | skip
  exact bodyQ_mk (vs := [nilS, iv 0, iv 2]) (.inr rfl) (by rw [Try.results45]; first | (simp only [go_sem, ↓reduceIte, simprocAttr]; done) | (simp only [go_sem, ↓reduceIte, simprocAttr]; rfl)) (Vs.refl _ _ _) ⟨rfl, rfl⟩
theorem bestRoom (H : Hp) (l : List Pr) (ex : Bool) (room : Int) (h : l.length ≤ 24) (hb : l.any badP = false) (hr : room < 0 ∨ room > 16777216) : CallsTo Try.prog 45 [.rsl (prs l) ex, iv room] H (.tup [nilS, iv 0, iv 3]) H := by
  have hpl := prs_len l
  have hg : ¬ (l.length : Int) > 24 := by omega
  have hc := containsP_ok H l ex (by simp only [maxLen]; omega)
  have ho := outside_ok H room 0 16777216
  rw [hb] at hc
  rw [decide_eq_true hr] at ho
  refine ACalls.of_body Try.func45 rfl (by kernel_rfl) (by rw [Try.ntmps45]; simp) ?_; rw [Try.ntmps45]
  repeat' (first | refine spD (fun _ => ?_) (fun _ => ?_) | refine spF (fun _ => ?_) (fun _ => ?_) | (apply gT; (exact rfl)) | (apply off; (exact rfl); (exact rfl)) | (apply condT; (exact rfl)) | (apply condF; (exact rfl)) | ((first | (apply stp0; (exact rfl); (exact rfl)) | (apply stpN0; (exact rfl)) | apply gT | apply condT); (first | (focus (simp only [go_sem, ↓reduceIte, simprocAttr, hpl, hg] <;> rfl)) | exact rfl); (first | (fail_if_success (show okD _ _ _ _ _ _ _ _ _)) | (first | exact okT | exact okN | exact okE rfl))) | (apply calTo0; (exact rfl); (iterate 2 (simp only [go_sem, ↓reduceIte, simprocAttr, hpl, hg]; rfl)); (first | exact hc | exact ho); (first | exact okT | exact okN | exact okE rfl)) | refine thenQ_n ?_ | refine thenQ_r ?_ | refine thenQ_e ?_ | refine blockQ_n ?_ | refine blockQ_r ?_ | refine blockQ_e ?_ | (apply blockQ_o; (exact rfl)) | refine Awp.seq ?_ | refine Awp.skip ?_ | refine Awp.block ?_ | refine reg (fun s => s == 12 || s == 14 || s == 17 || s == 18) ?_ | (apply drwE mixed (fun s => s == 12 || s == 14 || s == 17 || s == 18); (kernel_rfl)) | refine fin ?_ | refine Awp.ret ?_ | refine Awp.exit ?_ | ((first | (apply off; (exact rfl)) | apply condF); (first | (focus (simp only [go_sem, ↓reduceIte, simprocAttr, hpl, hg] <;> rfl)) | exact rfl)))
  all_goals first | contradiction | skip
  exact bodyQ_mk (vs := [nilS, iv 0, iv 3]) (.inr rfl) (by rw [Try.results45]; first | (simp only [go_sem, ↓reduceIte, simprocAttr]; done) | (simp only [go_sem, ↓reduceIte, simprocAttr]; rfl)) (Vs.refl _ _ _) ⟨rfl, rfl⟩

end Go.Proofs.Ytlhchnnfgppneaa.Ab
