/- Fields: the deferred call that recovers. -/
import Derived.Test.YtehagceghnjamaaD1
namespace Go.Proofs.Ytehagceghnjamaa.Ab
open Go Go.RowKit Go.Proofs
set_option linter.unusedSimpArgs false
set_option linter.unusedVariables false
attribute [local irreducible] Awp wpO thenQ blockQ bodyQ ACalls stepA

theorem two_args {g : Gh} {x y : AV} {vs : Array Value} (hr : RCells g [x, y] vs) : ∃ v0 v1, vs = #[v0, v1] ∧ R g x v0 ∧ R g y v1 := by
  have hs := hr.size
  match vs, hs, hr with
  | ⟨[v0, v1]⟩, _, hr => exact ⟨v0, v1, rfl, hr.cell 0 _ _ rfl rfl, hr.cell 1 _ _ rfl rfl⟩

theorem wpO_whole {base : Nat} {w0 w : World} {g : Gh} {H : Hp} {P : Program} {n : Nat} {T : Env} {mu : Nat → Bool} {ops : Array Oper} {a : Act} {Q : Exit → Act → World → Prop} {K : Env → Hp → Prop}
    (S : Sim base w0 g H w) (hT : TRel g n T a.tmps) (h : wpO P mu n none [] ops.toList T H K)
    (hQ : ∀ T' H' g' w' a', K T' H' → g.le g' → Sim base w0 g' H' w' → TRel g' n T' a'.tmps → a'.defers = a.defers → Q .normal a' w') : wpListIn Fence.wide 0 P ops Q ops.toList a w := by
  have := wpO_soundM (P := P) (mu := mu) (n := n) (d := none) (ops := ops.toList) (more := []) (r := none) (base := base) (w0 := w0) (ds := a.defers) (g0 := g) (Q := Q) (K := K)
    (fun T' H' g' w' a' hk hg S' hT' hd => by unfold wpListIn; exact hQ T' H' g' w' a' hk hg S' hT' hd) ops.toList [] T H g w a (by simp) (by simp) (Gh.le.refl g) S hT rfl h
  rw [List.append_nil] at this
  exact this

theorem ta_nil (w : World) : (Instr.typeAssert .nilIface 20 28 true).run Try.prog w = .ok (.tuple #[.int .i64 0, .bool false]) w := by
  unfold Instr.typeAssert
  simp only [Sem.run_bind, run_underlying Try.underlying28, Result.andThen_ok]
  kernel_rfl

theorem ta_hit (w : World) : (Instr.typeAssert (.iface 28 (.int .i64 21)) 20 28 true).run Try.prog w = .ok (.tuple #[.int .i64 21, .bool true]) w := by
  unfold Instr.typeAssert
  simp only [Sem.run_bind, run_underlying Try.underlying28, Result.andThen_ok]
  kernel_rfl

theorem calm76 (H : Hp) (x y : AV) : ADef Try.prog 76 [x, y] H .returning fun u' H' => u' = .returning ∧ H' = H := by
  intro base w0 g w vs S hr
  obtain ⟨v0, v1, rfl, h0, h1⟩ := two_args hr
  refine callsDIn_of_wpSIn Try.func76 rfl trivial fun c₀ cs hu => ?_
  apply wpSIn_seq
  apply wpSIn_region
  simp [wpOpsSIn, go_sem, recoverD, hu, Try.ntmps76, Exit.thenS, ta_nil]
  apply wpSIn_seq
  apply wpSIn_region
  simp [wpOpsSIn, go_sem, Exit.thenS]
  refine wpSIn_cond (t := false) (by simp [Act.eval, Array.replicate]) ?_
  simp only [Bool.false_eq_true, if_false]
  refine wpSIn_of_wpIn rfl (wpIn_skip ?_)
  cases c₀
  simp_all [bodyPostS, results, Try.results76]
  exact ⟨g, Gh.le.refl g, S⟩

theorem caught76 (H : Hp) (p q : Nat) (x e : AV) (hp : H[p]? = some (.cells [[x]] 65)) (hq : H[q]? = some (.cells [[e]] 28)) (hne : p ≠ q) :
    ADef Try.prog 76 [.mptr p 0 0, .mptr q 0 0] H (.panicking c21) fun u' H' => settle u' = .returning ∧ H' = (H.set p (.cells [[iv 0]] 65)).set q (.cells [[iv 21]] 28) := by
  intro base w0 g w vs S hr
  obtain ⟨v0, v1, rfl, h0, h1⟩ := two_args hr
  refine callsDIn_of_wpSIn Try.func76 rfl trivial fun c₀ cs hu => ?_
  apply wpSIn_seq
  apply wpSIn_region
  simp [wpOpsSIn, go_sem, recoverD, hu, c21, Try.ntmps76, Exit.thenS, ta_hit]
  apply wpSIn_seq
  apply wpSIn_region
  simp [wpOpsSIn, go_sem, Exit.thenS]
  refine wpSIn_cond (t := true) (by simp [Act.eval, Array.replicate]) ?_
  simp only [if_true]
  refine wpSIn_of_wpIn rfl ?_
  refine wpIn_region_list ?_
  generalize htm : HAppend.hAppend (α := Array Value) (β := Array Value) (γ := Array Value) #[v0, v1] _ = tm
  have z0 : tm.getD 0 undef = v0 := by rw [← htm]; rfl
  have z1 : tm.getD 1 undef = v1 := by rw [← htm]; rfl
  have z2 : tm.getD 2 undef = .int .i64 21 := by rw [← htm]; rfl
  have zs : tm.size = 11 := by rw [← htm]; rfl
  let T : Env := fun t => if t = 0 then .mptr p 0 0 else if t = 1 then .mptr q 0 0 else .val (tm.getD t undef)
  have hT : TRel g 11 T tm := by
    refine ⟨zs, fun t => ?_⟩
    show R g (if t = 0 then _ else if t = 1 then _ else _) _
    by_cases e0 : t = 0
    · subst e0; rw [if_pos rfl, z0]; exact h0
    rw [if_neg e0]
    by_cases e1 : t = 1
    · subst e1; rw [if_pos rfl, z1]; exact h1
    rw [if_neg e1]
    exact .val _
  have k0 : T 0 = .mptr p 0 0 := rfl
  have k1 : T 1 = .mptr q 0 0 := rfl
  have k2 : T 2 = iv 21 := by show AV.val (tm.getD 2 undef) = _; rw [z2]
  have hq2 : (H.set p (.cells [[iv 0]] 65))[q]? = some (.cells [[e]] 28) := by rw [List.getElem?_set_ne hne]; exact hq
  refine wpO_whole (mu := fun _ => false) (T := T) (n := 11) (K := fun T' H' => H' = (H.set p (.cells [[iv 0]] 65)).set q (.cells [[iv 21]] 28)) S hT ?_ (fun T' H' g' w' a hk hg S' hT' hd => ?_)
  · repeat' (first | refine spD (fun _ => ?_) (fun _ => ?_) | refine spF (fun _ => ?_) (fun _ => ?_) | ((first | (apply stp0; (exact rfl); (exact rfl)) | (apply stpN0; (exact rfl))); (simp only [go_sem, ↓reduceIte, Nat.reduceEqDiff, Nat.reduceBEq, Nat.reduceAdd, Nat.reduceLeDiff, Nat.reduceMul, Nat.reduceLT, Int.reduceToNat, reduceCtorEq, Int.reduceBEq, Int.reduceBNe, Int.reduceLT, Int.reduceLE, Int.reduceGT, Int.reduceGE, k0, k1, k2, hp, hq, hq2]; rfl); (first | exact okT | exact okN | exact okE rfl)) | (apply gT; (exact rfl)) | (apply off; (exact rfl); (exact rfl)) | refine thenQ_n ?_ | refine thenQ_r ?_ | refine thenQ_e ?_ | refine blockQ_n ?_ | refine blockQ_r ?_ | refine blockQ_e ?_ | (apply blockQ_o; (exact rfl)) | refine Awp.seq ?_ | refine Awp.skip ?_ | refine Awp.block ?_ | refine reg (fun s => false) ?_ | (apply drwE mixed (fun s => false); (kernel_rfl)) | refine fin ?_ | (apply condT; (exact rfl)) | (apply condF; (exact rfl)) | refine Awp.ret ?_ | refine Awp.exit ?_ | ((first | apply bodyQ_d0 | apply bodyQ_d1 | apply bodyQ_d2 | apply bodyQ_d3 | apply bodyQ_d4); (exact .inr rfl); (rw [Try.results76]; simp only [go_sem, ↓reduceIte, Nat.reduceEqDiff, Nat.reduceBEq, Nat.reduceAdd, Nat.reduceLeDiff, Nat.reduceMul, Nat.reduceLT, Int.reduceToNat, reduceCtorEq, Int.reduceBEq, Int.reduceBNe, Int.reduceLT, Int.reduceLE, Int.reduceGT, Int.reduceGE, k0, k1, k2, hp, hq, hq2]; rfl); (first | (show Bel _ _; (focus first | exact .val _ | (simp [oneOf, Bel_iff_tup, Bel_iff_agg, Bel_iff_rsl, Bel_val]; done))) | (fail_if_success (show Bel _ _)))) | ((first | apply gT | apply condT); (focus (simp only [go_sem, ↓reduceIte, Nat.reduceEqDiff, Nat.reduceBEq, Nat.reduceAdd, Nat.reduceLeDiff, Nat.reduceMul, Nat.reduceLT, Int.reduceToNat, reduceCtorEq, Int.reduceBEq, Int.reduceBNe, Int.reduceLT, Int.reduceLE, Int.reduceGT, Int.reduceGE, k0, k1, k2, hp, hq, hq2] <;> rfl))) | ((first | (apply off; (exact rfl)) | apply condF); (focus (simp only [go_sem, ↓reduceIte, Nat.reduceEqDiff, Nat.reduceBEq, Nat.reduceAdd, Nat.reduceLeDiff, Nat.reduceMul, Nat.reduceLT, Int.reduceToNat, reduceCtorEq, Int.reduceBEq, Int.reduceBNe, Int.reduceLT, Int.reduceLE, Int.reduceGT, Int.reduceGE, k0, k1, k2, hp, hq, hq2] <;> rfl))))
    simp only [go_sem, ↓reduceIte, Nat.reduceEqDiff, Nat.reduceBEq, Nat.reduceAdd, Nat.reduceLeDiff, Nat.reduceMul, Nat.reduceLT, Int.reduceToNat, reduceCtorEq, Int.reduceBEq, Int.reduceBNe, Int.reduceLT, Int.reduceLE, Int.reduceGT, Int.reduceGE]
  · subst hk
    cases c₀
    simp_all [bodyPostS, results, Try.results76, settle]
    exact ⟨g', hg, S'⟩

end Go.Proofs.Ytehagceghnjamaa.Ab
