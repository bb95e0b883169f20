/- Cables: subtrees, depth first. -/
import Derived.Test.YtphfdbmbdaninaaWF
namespace Go.Proofs.Ytphfdbmbdaninaa.Ab
open Go Go.RowKit Go.Proofs
set_option linter.unusedSimpArgs false
set_option linter.unusedVariables false
attribute [local irreducible] Awp wpO thenQ blockQ bodyQ ACalls stepA

theorem kids_chi {l : List Nd} (t : Tr l) (p : Nat) : ∀ i, i < l.length → kids l p i = ((List.range (i + 1)).filter fun j => decide (p < j ∧ parN l j = p)).map (fun (n : Nat) => (n : Int))
  | 0, h => by
    have : ¬ parN l 0 = (p : Int) := by rw [t.root]; omega
    simp [kids, List.range_succ, this]
  | i + 1, h => by
    obtain ⟨a, ha⟩ := nth h
    have e : parN l (i + 1) = a.par := by simp [parN, ha]
    have hu := t.up (i + 1) (by omega) h
    rw [kids_succ ha, kids_chi t p i (by omega), List.range_succ (n := i + 1), List.filter_append, List.map_append]
    congr 1
    by_cases hp : a.par = p
    · have : p < i + 1 := by omega
      rw [if_pos hp]
      simp [e, hp, this]
    · rw [if_neg hp]
      simp [e, hp]

theorem kids_all {l : List Nd} (t : Tr l) (p : Nat) (h : 1 ≤ l.length) : kids l p (l.length - 1) = (chi l p).map (fun (n : Nat) => (n : Int)) := by
  rw [kids_chi t p _ (by omega), show l.length - 1 + 1 = l.length by omega]
  rfl

def fnV (c : Cb) (ob fb : Nat) : AV := .fn (.func 112) [.mptr ob 0 0, .rptr [treeV c] 0, .mptr fb 0 0]

structure DnI (c : Cb) (G H : Hp) (ob fb lo : Nat) (v : List Nat) : Prop where
  grow : Grow G H
  low : lo ≤ H.length
  out : ∃ a, H[ob]? = some (.cells [[a]] 42) ∧ Own lo 3 H a (nats v) ∧ ∀ es, a ≠ .rsl es true
  fn : H[fb]? = some (.cells [[fnV c ob fb]] 141)

theorem flat_take_le {α β : Type} (g : α → List β) : ∀ (l : List α) (i : Nat), ((l.take i).flatMap g).length ≤ (l.flatMap g).length
  | [], i => by simp
  | a :: l, 0 => by simp
  | a :: l, i + 1 => by simp only [List.take_succ_cons, List.flatMap_cons, List.length_append]; have := flat_take_le g l i; omega

theorem pre_succ {l : List Nd} (f k : Nat) (h : l.length ≤ f + k + 1) : pre l f k = k :: (chi l k).flatMap (pre l (f - 1)) := by
  cases f with
  | zero =>
    have : chi l k = [] := by
      rw [List.eq_nil_iff_forall_not_mem]
      intro i hi
      obtain ⟨h1, h2, _⟩ := mem_chi.1 hi
      omega
    simp [pre, this]
  | succ f => rfl

theorem rowF_len {l : List Nd} (t : Tr l) {k : Nat} (h : 1 ≤ l.length) (H : Hp) : lenA Try.prog 42 (rowF l k) H = some (iv (chi l k).length) := by
  have e := kids_all t k h
  unfold rowF
  split
  · rename_i h0
    rw [e] at h0
    have : chi l k = [] := by simpa using h0
    rw [this]
    simp [lenA]
  · rw [e]
    simp [lenA, ints]

theorem stpLen {P : Program} {mu : Nat → Bool} {n : Nat} {d : Option Draw} {done : List (Option Tmp)} {rest : List Oper} {T : Env} {H : Hp} {K : Env → Hp → Prop} {ty : TypeId} {pos : String} {aft : Array Edge} {s : Tmp} {x : Operand} {t : TypeId} {a v : AV}
    (hd : dstOk n (some s) = true) (hs : evA T x = a) (h : lenA P t a H = some v) (ho : okD P mu d done.length ⟨some s, .call ⟨.builtin .len, #[x], #[t]⟩, ty, pos, aft, none⟩ T H v H) (k : wpO P mu n d (done ++ [some s]) rest (upd T s v) H K) :
    wpO P mu n d done (⟨some s, .call ⟨.builtin .len, #[x], #[t]⟩, ty, pos, aft, none⟩ :: rest) T H K := by
  refine stp0 hd rfl ?_ ho k
  simp only [stepA, builtinA, List.map_cons, List.map_nil]
  rw [hs, h]; rfl

set_option maxRecDepth 8000 in
theorem down_step (c : Cb) (hg : c.good) (G : Hp) (ob fb lo : Nat) (ho : G.length ≤ ob) (hf : G.length ≤ fb) (hl : G.length ≤ lo) (f k : Nat) (v : List Nat) (H : Hp) (hk : k < c.l.length) (hB : v.length + (k :: (chi c.l k).flatMap (pre c.l f)).length ≤ 1000) (hI : DnI c G H ob fb lo v)
    (ih : ∀ j, j ∈ chi c.l k → ∀ v H, v.length + (pre c.l f j).length ≤ 1000 → DnI c G H ob fb lo v → ACalls Try.prog 112 [iv j, .mptr ob 0 0, .rptr [treeV c] 0, .mptr fb 0 0] H fun _ H' => DnI c G H' ob fb lo (v ++ pre c.l f j)) :
    ACalls Try.prog 112 [iv k, .mptr ob 0 0, .rptr [treeV c] 0, .mptr fb 0 0] H fun _ H' => DnI c G H' ob fb lo (v ++ k :: (chi c.l k).flatMap (pre c.l f)) := by
  obtain ⟨h1, h20, hs, hn⟩ := hg.h
  have t := good_tr hg
  simp only [List.length_cons] at hB
  obtain ⟨hG, hlo, ⟨a, hob, hO, _⟩, hfb⟩ := hI
  have hOR : OwnR lo 3 1 8 H a (nats v) := ⟨hO, nats_one _, by rw [nats_len]; omega⟩
  have k1 := hO.other hob (by simp)
  have k2 := hO.other hfb (by simp)
  have hne : ob ≠ fb := by rintro rfl; rw [hob] at hfb; simp at hfb
  have q1 := held hob
  have q2 := held k1
  have q3 := heldS k1
  have q4 := heldO hne k2
  have hnx : ((List.range c.l.length).map fun p => [rowF c.l p])[k]? = some [rowF c.l k] := by simp [hk]
  have hnl : ((List.range c.l.length).map fun p => [rowF c.l p]).length = c.l.length := by simp
  have hrl := rowF_len t (k := k) h1
  have hm : (chi c.l k).length ≤ 20 := by
    have := List.length_filter_le (fun i => decide (k < i ∧ parN c.l i = k)) (List.range c.l.length)
    rw [List.length_range] at this
    show ((List.range c.l.length).filter _).length ≤ 20
    omega
  refine ACalls.of_body Try.func112 rfl (by kernel_rfl) (by rw [Try.ntmps112]; simp) ?_; rw [Try.ntmps112]
  simp only [treeV, nextV, Cb.cs, List.cons_append, List.nil_append]
  repeat' ((fail_if_success (apply stopR (id := 2))); (fail_if_success (apply stopS (id := 2))); first | refine spD (fun _ => ?_) (fun _ => ?_) | refine spF (fun _ => ?_) (fun _ => ?_) | (apply gT; (exact rfl)) | (apply off; (exact rfl); (exact rfl)) | (apply condT; (exact rfl)) | (apply condF; (exact rfl)) | ((first | (apply stp0; (exact rfl); (exact rfl)) | (apply stpN0; (exact rfl)) | apply gT | apply condT | ((first | apply bodyQ_d0 | apply bodyQ_d1 | apply bodyQ_d2 | apply bodyQ_d3 | apply bodyQ_d4); (exact .inr rfl); (rw [Try.results112]))); (first | (focus (simp only [go_sem, ↓reduceIte, Nat.reduceEqDiff, Nat.reduceBEq, Nat.reduceAdd, Nat.reduceLeDiff, Nat.reduceMul, Nat.reduceLT, Int.reduceToNat, reduceCtorEq, Int.reduceBEq, Int.reduceBNe, Int.reduceLT, Int.reduceLE, Int.reduceGT, Int.reduceGE, q1, q2, q3, hnx, hnl] <;> rfl)) | exact rfl); (first | (fail_if_success (show okD _ _ _ _ _ _ _ _ _)) | (first | exact okT | exact okN | exact okE rfl)); (first | (fail_if_success (show Bel _ _)) | (focus first | exact .val _ | (simp [oneOf, Bel_iff_tup, Bel_iff_agg, Bel_iff_rsl, Bel_iff_fn, Bel_iff_rptr, Bel_val]; done)))) | (apply stpApp; (exact rfl); (first | exact hOR); (iterate 2 (first | (focus (simp only [go_sem, ↓reduceIte, Nat.reduceEqDiff, Nat.reduceBEq, Nat.reduceAdd, Nat.reduceLeDiff, Nat.reduceMul, Nat.reduceLT, Int.reduceToNat, reduceCtorEq, Int.reduceBEq, Int.reduceBNe, Int.reduceLT, Int.reduceLE, Int.reduceGT, Int.reduceGE, q1, q2, q3, hnx, hnl] <;> rfl)) | rfl)); (first | rfl | (simp [AV.isCell]; done)); (first | rfl | (simp; done)); (first | exact ap24 | exact ap27 | exact ap30 | exact ap34 | exact ap42 | exact ap57 | exact ap70 | exact ap75 | exact ap81 | exact ap116 | exact ap137); (first | exact okT | exact okN | exact okE rfl)) | refine thenQ_n ?_ | refine thenQ_r ?_ | refine thenQ_e ?_ | refine blockQ_n ?_ | refine blockQ_r ?_ | refine blockQ_e ?_ | (apply blockQ_o; (exact rfl)) | refine Awp.seq ?_ | refine Awp.skip ?_ | refine Awp.block ?_ | refine reg (fun s => false) ?_ | (apply drwE mixed (fun s => false); (kernel_rfl)) | refine fin ?_ | refine Awp.ret ?_ | refine Awp.exit ?_ | ((first | (apply off; (exact rfl)) | apply condF); (first | (focus (simp only [go_sem, ↓reduceIte, Nat.reduceEqDiff, Nat.reduceBEq, Nat.reduceAdd, Nat.reduceLeDiff, Nat.reduceMul, Nat.reduceLT, Int.reduceToNat, reduceCtorEq, Int.reduceBEq, Int.reduceBNe, Int.reduceLT, Int.reduceLE, Int.reduceGT, Int.reduceGE, q1, q2, q3, hnx, hnl] <;> rfl)) | exact rfl)))
  refine stpLen rfl ?_ (hrl _) okT ?_
  · (first | (focus (simp only [go_sem, ↓reduceIte, Nat.reduceEqDiff, Nat.reduceBEq, Nat.reduceAdd, Nat.reduceLeDiff, Nat.reduceMul, Nat.reduceLT, Int.reduceToNat, reduceCtorEq, Int.reduceBEq, Int.reduceBNe, Int.reduceLT, Int.reduceLE, Int.reduceGT, Int.reduceGE]; done)) | (focus (simp only [go_sem, ↓reduceIte, Nat.reduceEqDiff, Nat.reduceBEq, Nat.reduceAdd, Nat.reduceLeDiff, Nat.reduceMul, Nat.reduceLT, Int.reduceToNat, reduceCtorEq, Int.reduceBEq, Int.reduceBNe, Int.reduceLT, Int.reduceLE, Int.reduceGT, Int.reduceGE]; rfl)) | rfl)
  repeat' ((fail_if_success (apply stopR (id := 2))); (fail_if_success (apply stopS (id := 2))); first | refine spD (fun _ => ?_) (fun _ => ?_) | refine spF (fun _ => ?_) (fun _ => ?_) | (apply gT; (exact rfl)) | (apply off; (exact rfl); (exact rfl)) | (apply condT; (exact rfl)) | (apply condF; (exact rfl)) | ((first | (apply stp0; (exact rfl); (exact rfl)) | (apply stpN0; (exact rfl)) | apply gT | apply condT | ((first | apply bodyQ_d0 | apply bodyQ_d1 | apply bodyQ_d2 | apply bodyQ_d3 | apply bodyQ_d4); (exact .inr rfl); (rw [Try.results112]))); (first | (focus (simp only [go_sem, ↓reduceIte, Nat.reduceEqDiff, Nat.reduceBEq, Nat.reduceAdd, Nat.reduceLeDiff, Nat.reduceMul, Nat.reduceLT, Int.reduceToNat, reduceCtorEq, Int.reduceBEq, Int.reduceBNe, Int.reduceLT, Int.reduceLE, Int.reduceGT, Int.reduceGE] <;> rfl)) | exact rfl); (first | (fail_if_success (show okD _ _ _ _ _ _ _ _ _)) | (first | exact okT | exact okN | exact okE rfl)); (first | (fail_if_success (show Bel _ _)) | (focus first | exact .val _ | (simp [oneOf, Bel_iff_tup, Bel_iff_agg, Bel_iff_rsl, Bel_iff_fn, Bel_iff_rptr, Bel_val]; done)))) | refine thenQ_n ?_ | refine thenQ_r ?_ | refine thenQ_e ?_ | refine blockQ_n ?_ | refine blockQ_r ?_ | refine blockQ_e ?_ | (apply blockQ_o; (exact rfl)) | refine Awp.seq ?_ | refine Awp.skip ?_ | refine Awp.block ?_ | refine reg (fun s => false) ?_ | (apply drwE mixed (fun s => false); (kernel_rfl)) | refine fin ?_ | refine Awp.ret ?_ | refine Awp.exit ?_ | ((first | (apply off; (exact rfl)) | apply condF); (first | (focus (simp only [go_sem, ↓reduceIte, Nat.reduceEqDiff, Nat.reduceBEq, Nat.reduceAdd, Nat.reduceLeDiff, Nat.reduceMul, Nat.reduceLT, Int.reduceToNat, reduceCtorEq, Int.reduceBEq, Int.reduceBNe, Int.reduceLT, Int.reduceLE, Int.reduceGT, Int.reduceGE] <;> rfl)) | exact rfl)))
  refine Awp.loop (ι := Nat) (fun i T' H' => i ≤ (chi c.l k).length ∧ T' 19 = iv i ∧ T' 18 = iv (chi c.l k).length ∧ T' 17 = rowF c.l k ∧ T' 3 = .mptr fb 0 0 ∧ DnI c G H' ob fb lo (v ++ k :: ((chi c.l k).take i).flatMap (pre c.l f))) (fun i => (chi c.l k).length - i) 0 ?_ ?_
  · refine ⟨by omega, ?_, ?_, ?_, ?_, ?_, ?_, ⟨_, q3.2.1 _ _, ?_, by intro es h; cases h⟩, q4.2.1 _ _⟩
    · (first | (focus (simp only [go_sem, ↓reduceIte, Nat.reduceEqDiff, Nat.reduceBEq, Nat.reduceAdd, Nat.reduceLeDiff, Nat.reduceMul, Nat.reduceLT, Int.reduceToNat, reduceCtorEq, Int.reduceBEq, Int.reduceBNe, Int.reduceLT, Int.reduceLE, Int.reduceGT, Int.reduceGE]; done)) | (focus (simp only [go_sem, ↓reduceIte, Nat.reduceEqDiff, Nat.reduceBEq, Nat.reduceAdd, Nat.reduceLeDiff, Nat.reduceMul, Nat.reduceLT, Int.reduceToNat, reduceCtorEq, Int.reduceBEq, Int.reduceBNe, Int.reduceLT, Int.reduceLE, Int.reduceGT, Int.reduceGE]; rfl)) | rfl)
    · (first | (focus (simp only [go_sem, ↓reduceIte, Nat.reduceEqDiff, Nat.reduceBEq, Nat.reduceAdd, Nat.reduceLeDiff, Nat.reduceMul, Nat.reduceLT, Int.reduceToNat, reduceCtorEq, Int.reduceBEq, Int.reduceBNe, Int.reduceLT, Int.reduceLE, Int.reduceGT, Int.reduceGE]; done)) | (focus (simp only [go_sem, ↓reduceIte, Nat.reduceEqDiff, Nat.reduceBEq, Nat.reduceAdd, Nat.reduceLeDiff, Nat.reduceMul, Nat.reduceLT, Int.reduceToNat, reduceCtorEq, Int.reduceBEq, Int.reduceBNe, Int.reduceLT, Int.reduceLE, Int.reduceGT, Int.reduceGE]; rfl)) | rfl)
    · (first | (focus (simp only [go_sem, ↓reduceIte, Nat.reduceEqDiff, Nat.reduceBEq, Nat.reduceAdd, Nat.reduceLeDiff, Nat.reduceMul, Nat.reduceLT, Int.reduceToNat, reduceCtorEq, Int.reduceBEq, Int.reduceBNe, Int.reduceLT, Int.reduceLE, Int.reduceGT, Int.reduceGE]; done)) | (focus (simp only [go_sem, ↓reduceIte, Nat.reduceEqDiff, Nat.reduceBEq, Nat.reduceAdd, Nat.reduceLeDiff, Nat.reduceMul, Nat.reduceLT, Int.reduceToNat, reduceCtorEq, Int.reduceBEq, Int.reduceBNe, Int.reduceLT, Int.reduceLE, Int.reduceGT, Int.reduceGE]; rfl)) | rfl)
    · (first | (focus (simp only [go_sem, ↓reduceIte, Nat.reduceEqDiff, Nat.reduceBEq, Nat.reduceAdd, Nat.reduceLeDiff, Nat.reduceMul, Nat.reduceLT, Int.reduceToNat, reduceCtorEq, Int.reduceBEq, Int.reduceBNe, Int.reduceLT, Int.reduceLE, Int.reduceGT, Int.reduceGE]; done)) | (focus (simp only [go_sem, ↓reduceIte, Nat.reduceEqDiff, Nat.reduceBEq, Nat.reduceAdd, Nat.reduceLeDiff, Nat.reduceMul, Nat.reduceLT, Int.reduceToNat, reduceCtorEq, Int.reduceBEq, Int.reduceBNe, Int.reduceLT, Int.reduceLE, Int.reduceGT, Int.reduceGE]; rfl)) | rfl)
    · exact ((hO.grow hl hG).set ho _).app _
    · simp [ownK_len]; omega
    · have := (hO.next hlo [iv (k : Int)] rfl rfl).set (s := ob) (c := .cells [[.msl H.length 0 ((nats v).length + 1)]] 42) (q2.2.1 _) (by simp)
      rw [q3.2.2.2.2.2.1] at this
      simpa [nats] using this
  rintro i T H' ⟨hi, h19, h18, h17, h3, hD⟩
  by_cases hlt : i < (chi c.l k).length
  · obtain ⟨j, hj⟩ := nth hlt
    have hw : IntKind.i64.wrap ((i : Int) + 1) = ((i + 1 : Nat) : Int) := wsucc hlt (by simp only [maxLen]; omega)
    have hne0 : ¬ kids c.l k (c.l.length - 1) = [] := by
      rw [kids_all t k h1]
      intro h0
      have : chi c.l k = [] := by simpa using h0
      rw [this] at hlt; simp at hlt
    have hrow : rowF c.l k = .rsl (nats (chi c.l k)) false := by
      unfold rowF
      rw [if_neg hne0, kids_all t k h1, nats_ints]
    rw [hrow] at h17
    have hjc := nats_at hj
    have hnlen := nats_len (chi c.l k)
    have hfn := hD.fn
    simp only [fnV, treeV, nextV, Cb.cs, List.cons_append, List.nil_append] at hfn
    have etk : (chi c.l k).take (i + 1) = (chi c.l k).take i ++ [j] := by rw [List.take_add_one, hj]; rfl
    have hle := flat_take_le (pre c.l f) (chi c.l k) (i + 1)
    rw [etk, List.flatMap_append, List.length_append] at hle
    simp only [List.flatMap_cons, List.flatMap_nil, List.append_nil] at hle
    have hcall := ih j (List.mem_of_getElem? hj) _ H' (by simp only [List.length_append, List.length_cons]; omega) hD
    repeat' (first | refine spD (fun _ => ?_) (fun _ => ?_) | refine spF (fun _ => ?_) (fun _ => ?_) | (apply gT; (exact rfl)) | (apply off; (exact rfl); (exact rfl)) | (apply condT; (exact rfl)) | (apply condF; (exact rfl)) | ((first | (apply stp0; (exact rfl); (exact rfl)) | (apply stpN0; (exact rfl)) | apply gT | apply condT | ((first | apply bodyQ_d0 | apply bodyQ_d1 | apply bodyQ_d2 | apply bodyQ_d3 | apply bodyQ_d4); (exact .inr rfl); (rw [Try.results112]))); (first | (focus (simp only [go_sem, ↓reduceIte, Nat.reduceEqDiff, Nat.reduceBEq, Nat.reduceAdd, Nat.reduceLeDiff, Nat.reduceMul, Nat.reduceLT, Int.reduceToNat, reduceCtorEq, Int.reduceBEq, Int.reduceBNe, Int.reduceLT, Int.reduceLE, Int.reduceGT, Int.reduceGE, h19, h18, h17, h3, hfn, hjc, hnlen] <;> rfl)) | exact rfl); (first | (fail_if_success (show okD _ _ _ _ _ _ _ _ _)) | (first | exact okT | exact okN | exact okE rfl)); (first | (fail_if_success (show Bel _ _)) | (focus first | exact .val _ | (simp [oneOf, Bel_iff_tup, Bel_iff_agg, Bel_iff_rsl, Bel_iff_fn, Bel_iff_rptr, Bel_val]; done)))) | refine thenQ_n ?_ | refine thenQ_r ?_ | refine thenQ_e ?_ | refine blockQ_n ?_ | refine blockQ_r ?_ | refine blockQ_e ?_ | (apply blockQ_o; (exact rfl)) | refine Awp.seq ?_ | refine Awp.skip ?_ | refine Awp.block ?_ | refine reg (fun s => false) ?_ | (apply drwE mixed (fun s => false); (kernel_rfl)) | refine fin ?_ | refine Awp.ret ?_ | refine Awp.exit ?_ | ((first | (apply off; (exact rfl)) | apply condF); (first | (focus (simp only [go_sem, ↓reduceIte, Nat.reduceEqDiff, Nat.reduceBEq, Nat.reduceAdd, Nat.reduceLeDiff, Nat.reduceMul, Nat.reduceLT, Int.reduceToNat, reduceCtorEq, Int.reduceBEq, Int.reduceBNe, Int.reduceLT, Int.reduceLE, Int.reduceGT, Int.reduceGE, h19, h18, h17, h3, hfn, hjc, hnlen] <;> rfl)) | exact rfl)))
    all_goals first | (exfalso; omega) | skip
    refine cal rfl rfl ?_ ?_ (show ACallV Try.prog (.fn (.func 112) [.mptr ob 0 0, .rptr [treeV c] 0, .mptr fb 0 0]) [iv j] H' _ from hcall) ?_
    · (first | (focus (simp only [go_sem, ↓reduceIte, Nat.reduceEqDiff, Nat.reduceBEq, Nat.reduceAdd, Nat.reduceLeDiff, Nat.reduceMul, Nat.reduceLT, Int.reduceToNat, reduceCtorEq, Int.reduceBEq, Int.reduceBNe, Int.reduceLT, Int.reduceLE, Int.reduceGT, Int.reduceGE, treeV, nextV, Cb.cs, List.cons_append, List.nil_append]; done)) | (focus (simp only [go_sem, ↓reduceIte, Nat.reduceEqDiff, Nat.reduceBEq, Nat.reduceAdd, Nat.reduceLeDiff, Nat.reduceMul, Nat.reduceLT, Int.reduceToNat, reduceCtorEq, Int.reduceBEq, Int.reduceBNe, Int.reduceLT, Int.reduceLE, Int.reduceGT, Int.reduceGE, treeV, nextV, Cb.cs, List.cons_append, List.nil_append]; rfl)) | rfl)
    · (first | (focus (simp only [go_sem, ↓reduceIte, Nat.reduceEqDiff, Nat.reduceBEq, Nat.reduceAdd, Nat.reduceLeDiff, Nat.reduceMul, Nat.reduceLT, Int.reduceToNat, reduceCtorEq, Int.reduceBEq, Int.reduceBNe, Int.reduceLT, Int.reduceLE, Int.reduceGT, Int.reduceGE]; done)) | (focus (simp only [go_sem, ↓reduceIte, Nat.reduceEqDiff, Nat.reduceBEq, Nat.reduceAdd, Nat.reduceLeDiff, Nat.reduceMul, Nat.reduceLT, Int.reduceToNat, reduceCtorEq, Int.reduceBEq, Int.reduceBNe, Int.reduceLT, Int.reduceLE, Int.reduceGT, Int.reduceGE]; rfl)) | rfl)
    intro v1 H2 hD2
    repeat' (first | refine spD (fun _ => ?_) (fun _ => ?_) | refine spF (fun _ => ?_) (fun _ => ?_) | (apply gT; (exact rfl)) | (apply off; (exact rfl); (exact rfl)) | (apply condT; (exact rfl)) | (apply condF; (exact rfl)) | ((first | (apply stp0; (exact rfl); (exact rfl)) | (apply stpN0; (exact rfl)) | apply gT | apply condT | ((first | apply bodyQ_d0 | apply bodyQ_d1 | apply bodyQ_d2 | apply bodyQ_d3 | apply bodyQ_d4); (exact .inr rfl); (rw [Try.results112]))); (first | (focus (simp only [go_sem, ↓reduceIte, Nat.reduceEqDiff, Nat.reduceBEq, Nat.reduceAdd, Nat.reduceLeDiff, Nat.reduceMul, Nat.reduceLT, Int.reduceToNat, reduceCtorEq, Int.reduceBEq, Int.reduceBNe, Int.reduceLT, Int.reduceLE, Int.reduceGT, Int.reduceGE, h19, h18, h17, h3] <;> rfl)) | exact rfl); (first | (fail_if_success (show okD _ _ _ _ _ _ _ _ _)) | (first | exact okT | exact okN | exact okE rfl)); (first | (fail_if_success (show Bel _ _)) | (focus first | exact .val _ | (simp [oneOf, Bel_iff_tup, Bel_iff_agg, Bel_iff_rsl, Bel_iff_fn, Bel_iff_rptr, Bel_val]; done)))) | refine thenQ_n ?_ | refine thenQ_r ?_ | refine thenQ_e ?_ | refine blockQ_n ?_ | refine blockQ_r ?_ | refine blockQ_e ?_ | (apply blockQ_o; (exact rfl)) | refine Awp.seq ?_ | refine Awp.skip ?_ | refine Awp.block ?_ | refine reg (fun s => false) ?_ | (apply drwE mixed (fun s => false); (kernel_rfl)) | refine fin ?_ | refine Awp.ret ?_ | refine Awp.exit ?_ | ((first | (apply off; (exact rfl)) | apply condF); (first | (focus (simp only [go_sem, ↓reduceIte, Nat.reduceEqDiff, Nat.reduceBEq, Nat.reduceAdd, Nat.reduceLeDiff, Nat.reduceMul, Nat.reduceLT, Int.reduceToNat, reduceCtorEq, Int.reduceBEq, Int.reduceBNe, Int.reduceLT, Int.reduceLE, Int.reduceGT, Int.reduceGE, h19, h18, h17, h3] <;> rfl)) | exact rfl)))
    refine ⟨i + 1, ⟨by omega, ?_, ?_, ?_, ?_, ?_⟩, by omega⟩
    · (first | (focus (simp only [go_sem, ↓reduceIte, Nat.reduceEqDiff, Nat.reduceBEq, Nat.reduceAdd, Nat.reduceLeDiff, Nat.reduceMul, Nat.reduceLT, Int.reduceToNat, reduceCtorEq, Int.reduceBEq, Int.reduceBNe, Int.reduceLT, Int.reduceLE, Int.reduceGT, Int.reduceGE, hw]; done)) | (focus (simp only [go_sem, ↓reduceIte, Nat.reduceEqDiff, Nat.reduceBEq, Nat.reduceAdd, Nat.reduceLeDiff, Nat.reduceMul, Nat.reduceLT, Int.reduceToNat, reduceCtorEq, Int.reduceBEq, Int.reduceBNe, Int.reduceLT, Int.reduceLE, Int.reduceGT, Int.reduceGE, hw]; rfl)) | rfl)
    · (first | (focus (simp only [go_sem, ↓reduceIte, Nat.reduceEqDiff, Nat.reduceBEq, Nat.reduceAdd, Nat.reduceLeDiff, Nat.reduceMul, Nat.reduceLT, Int.reduceToNat, reduceCtorEq, Int.reduceBEq, Int.reduceBNe, Int.reduceLT, Int.reduceLE, Int.reduceGT, Int.reduceGE, h18]; done)) | (focus (simp only [go_sem, ↓reduceIte, Nat.reduceEqDiff, Nat.reduceBEq, Nat.reduceAdd, Nat.reduceLeDiff, Nat.reduceMul, Nat.reduceLT, Int.reduceToNat, reduceCtorEq, Int.reduceBEq, Int.reduceBNe, Int.reduceLT, Int.reduceLE, Int.reduceGT, Int.reduceGE, h18]; rfl)) | rfl)
    · rw [hrow]; (first | (focus (simp only [go_sem, ↓reduceIte, Nat.reduceEqDiff, Nat.reduceBEq, Nat.reduceAdd, Nat.reduceLeDiff, Nat.reduceMul, Nat.reduceLT, Int.reduceToNat, reduceCtorEq, Int.reduceBEq, Int.reduceBNe, Int.reduceLT, Int.reduceLE, Int.reduceGT, Int.reduceGE, h17]; done)) | (focus (simp only [go_sem, ↓reduceIte, Nat.reduceEqDiff, Nat.reduceBEq, Nat.reduceAdd, Nat.reduceLeDiff, Nat.reduceMul, Nat.reduceLT, Int.reduceToNat, reduceCtorEq, Int.reduceBEq, Int.reduceBNe, Int.reduceLT, Int.reduceLE, Int.reduceGT, Int.reduceGE, h17]; rfl)) | rfl)
    · (first | (focus (simp only [go_sem, ↓reduceIte, Nat.reduceEqDiff, Nat.reduceBEq, Nat.reduceAdd, Nat.reduceLeDiff, Nat.reduceMul, Nat.reduceLT, Int.reduceToNat, reduceCtorEq, Int.reduceBEq, Int.reduceBNe, Int.reduceLT, Int.reduceLE, Int.reduceGT, Int.reduceGE, h3]; done)) | (focus (simp only [go_sem, ↓reduceIte, Nat.reduceEqDiff, Nat.reduceBEq, Nat.reduceAdd, Nat.reduceLeDiff, Nat.reduceMul, Nat.reduceLT, Int.reduceToNat, reduceCtorEq, Int.reduceBEq, Int.reduceBNe, Int.reduceLT, Int.reduceLE, Int.reduceGT, Int.reduceGE, h3]; rfl)) | rfl)
    · rw [etk, List.flatMap_append]
      simpa using hD2
  · have hil : i = (chi c.l k).length := by omega
    subst hil
    rw [List.take_length] at hD
    repeat' ((fail_if_success (apply stopR (id := 3))); (fail_if_success (apply stopS (id := 3))); first | refine spD (fun _ => ?_) (fun _ => ?_) | refine spF (fun _ => ?_) (fun _ => ?_) | (apply gT; (exact rfl)) | (apply off; (exact rfl); (exact rfl)) | (apply condT; (exact rfl)) | (apply condF; (exact rfl)) | ((first | (apply stp0; (exact rfl); (exact rfl)) | (apply stpN0; (exact rfl)) | apply gT | apply condT | ((first | apply bodyQ_d0 | apply bodyQ_d1 | apply bodyQ_d2 | apply bodyQ_d3 | apply bodyQ_d4); (exact .inr rfl); (rw [Try.results112]))); (first | (focus (simp only [go_sem, ↓reduceIte, Nat.reduceEqDiff, Nat.reduceBEq, Nat.reduceAdd, Nat.reduceLeDiff, Nat.reduceMul, Nat.reduceLT, Int.reduceToNat, reduceCtorEq, Int.reduceBEq, Int.reduceBNe, Int.reduceLT, Int.reduceLE, Int.reduceGT, Int.reduceGE, h19, h18, h17, h3] <;> rfl)) | exact rfl); (first | (fail_if_success (show okD _ _ _ _ _ _ _ _ _)) | (first | exact okT | exact okN | exact okE rfl)); (first | (fail_if_success (show Bel _ _)) | (focus first | exact .val _ | (simp [oneOf, Bel_iff_tup, Bel_iff_agg, Bel_iff_rsl, Bel_iff_fn, Bel_iff_rptr, Bel_val]; done)))) | refine thenQ_n ?_ | refine thenQ_r ?_ | refine thenQ_e ?_ | refine blockQ_n ?_ | refine blockQ_r ?_ | refine blockQ_e ?_ | (apply blockQ_o; (exact rfl)) | refine Awp.seq ?_ | refine Awp.skip ?_ | refine Awp.block ?_ | refine reg (fun s => false) ?_ | (apply drwE mixed (fun s => false); (kernel_rfl)) | refine fin ?_ | refine Awp.ret ?_ | refine Awp.exit ?_ | ((first | (apply off; (exact rfl)) | apply condF); (first | (focus (simp only [go_sem, ↓reduceIte, Nat.reduceEqDiff, Nat.reduceBEq, Nat.reduceAdd, Nat.reduceLeDiff, Nat.reduceMul, Nat.reduceLT, Int.reduceToNat, reduceCtorEq, Int.reduceBEq, Int.reduceBNe, Int.reduceLT, Int.reduceLE, Int.reduceGT, Int.reduceGE, h19, h18, h17, h3] <;> rfl)) | exact rfl)))
    all_goals first | (exfalso; omega) | skip
    exact bodyQ_eq (.inl rfl) (by rw [Try.results112]; simp only [go_sem, ↓reduceIte, Nat.reduceEqDiff, Nat.reduceBEq, Nat.reduceAdd, Nat.reduceLeDiff, Nat.reduceMul, Nat.reduceLT, Int.reduceToNat, reduceCtorEq, Int.reduceBEq, Int.reduceBNe, Int.reduceLT, Int.reduceLE, Int.reduceGT, Int.reduceGE]; rfl) hD

theorem down_ok (c : Cb) (hg : c.good) (G : Hp) (ob fb lo : Nat) (ho : G.length ≤ ob) (hf : G.length ≤ fb) (hl : G.length ≤ lo) : ∀ (f k : Nat) (v : List Nat) (H : Hp), c.l.length ≤ f + k + 1 → k < c.l.length → v.length + (pre c.l f k).length ≤ 1000 → DnI c G H ob fb lo v →
    ACalls Try.prog 112 [iv k, .mptr ob 0 0, .rptr [treeV c] 0, .mptr fb 0 0] H fun _ H' => DnI c G H' ob fb lo (v ++ pre c.l f k)
  | 0, k, v, H, h1, h2, h3, h4 => by
    rw [pre_succ _ _ h1] at h3 ⊢
    refine down_step c hg G ob fb lo ho hf hl 0 k v H h2 h3 h4 fun j hj => ?_
    obtain ⟨h5, h6, _⟩ := mem_chi.1 hj
    omega
  | f + 1, k, v, H, h1, h2, h3, h4 => by
    refine down_step c hg G ob fb lo ho hf hl f k v H h2 h3 h4 fun j hj v H hB hI => ?_
    obtain ⟨h5, h6, _⟩ := mem_chi.1 hj
    exact down_ok c hg G ob fb lo ho hf hl f j v H (by omega) h5 hB hI

theorem has_ok' (H : Hp) (c : Cb) (k : Int) : CallsTo Try.prog 73 [treeV c, iv k] H (bv (decide (0 ≤ k ∧ k < c.l.length))) H := by
  refine ACalls.of_body Try.func73 rfl (by kernel_rfl) (by rw [Try.ntmps73]; simp) ?_; rw [Try.ntmps73]
  simp only [treeV, Cb.cs, List.cons_append, List.nil_append]
  repeat' (first | refine spD (fun _ => ?_) (fun _ => ?_) | refine spF (fun _ => ?_) (fun _ => ?_) | (apply gT; (exact rfl)) | (apply off; (exact rfl); (exact rfl)) | (apply condT; (exact rfl)) | (apply condF; (exact rfl)) | ((first | (apply stp0; (exact rfl); (exact rfl)) | (apply stpN0; (exact rfl)) | apply gT | apply condT | ((first | apply bodyQ_d0 | apply bodyQ_d1 | apply bodyQ_d2 | apply bodyQ_d3 | apply bodyQ_d4); (exact .inr rfl); (rw [Try.results73]))); (first | (focus (simp only [go_sem, ↓reduceIte, Nat.reduceEqDiff, Nat.reduceBEq, Nat.reduceAdd, Nat.reduceLeDiff, Nat.reduceMul, Nat.reduceLT, Int.reduceToNat, reduceCtorEq, Int.reduceBEq, Int.reduceBNe, Int.reduceLT, Int.reduceLE, Int.reduceGT, Int.reduceGE] <;> rfl)) | exact rfl); (first | (fail_if_success (show okD _ _ _ _ _ _ _ _ _)) | (first | exact okT | exact okN | exact okE rfl)); (first | (fail_if_success (show Bel _ _)) | (focus first | exact .val _ | (simp [oneOf, Bel_iff_tup, Bel_iff_agg, Bel_iff_rsl, Bel_iff_fn, Bel_iff_rptr, Bel_val]; done)))) | refine thenQ_n ?_ | refine thenQ_r ?_ | refine thenQ_e ?_ | refine blockQ_n ?_ | refine blockQ_r ?_ | refine blockQ_e ?_ | (apply blockQ_o; (exact rfl)) | refine Awp.seq ?_ | refine Awp.skip ?_ | refine Awp.block ?_ | refine reg (fun s => false) ?_ | (apply drwE mixed (fun s => false); (kernel_rfl)) | refine fin ?_ | refine Awp.ret ?_ | refine Awp.exit ?_ | ((first | (apply off; (exact rfl)) | apply condF); (first | (focus (simp only [go_sem, ↓reduceIte, Nat.reduceEqDiff, Nat.reduceBEq, Nat.reduceAdd, Nat.reduceLeDiff, Nat.reduceMul, Nat.reduceLT, Int.reduceToNat, reduceCtorEq, Int.reduceBEq, Int.reduceBNe, Int.reduceLT, Int.reduceLE, Int.reduceGT, Int.reduceGE] <;> rfl)) | exact rfl)))
  all_goals simp only [oneOf, bv, AV.val.injEq, Value.bool.injEq]
  all_goals symm
  all_goals first | (rw [decide_eq_true_eq]; omega) | (rw [decide_eq_false_iff_not]; omega)

theorem sorted_sub {c : Cb} (hg : c.good) {k : Nat} (hk : k < c.l.length) : sortS ((pre c.l c.l.length k).map (fun (n : Nat) => (n : Int))) = (sub c.l k).map (fun (n : Nat) => (n : Int)) := by
  refine List.Perm.eq_of_pairwise (le := fun a b => a ≤ b) (fun a b _ _ h1 h2 => Int.le_antisymm h1 h2) (sortS_pair _) ?_ ((sortS_perm _).trans ((pre_perm (good_tr hg) hk).map _))
  rw [List.pairwise_map]
  exact (sub_pair c.l k).imp (by intro a b h; omega)

theorem pre_len {c : Cb} (hg : c.good) {k : Nat} (hk : k < c.l.length) : (pre c.l c.l.length k).length ≤ 20 := by
  rw [(pre_perm (good_tr hg) hk).length_eq]
  have := subN_len c.l k c.l.length
  rw [subN_all] at this
  have := hg.h.2.1
  omega

set_option maxRecDepth 8000 in
theorem subtree_ok (H : Hp) (c : Cb) (hg : c.good) {k : Nat} (hk : k < c.l.length) : CallsTo Try.prog 77 [treeV c, iv k] H (.rsl (nats (sub c.l k)) false) H := by
  have hpl := pre_len hg hk
  have hD : DnI c H (H ++ [.cells [[nilS]] 42] ++ [.cells [[fnV c H.length (H.length + 1)]] 141]) H.length (H.length + 1) H.length [] :=
    ⟨((Grow.refl _).app _).app _, by simp, ⟨nilS, by simp, .nil, by intro es h; cases h⟩, by simp⟩
  have hcall := down_ok c hg H H.length (H.length + 1) H.length (Nat.le_refl _) (by omega) (Nat.le_refl _) c.l.length k [] _ (by omega) hk (by simp; omega) hD
  simp only [List.nil_append, treeV, nextV, Cb.cs, List.cons_append, fnV] at hcall
  refine ACalls.of_body Try.func77 rfl (by kernel_rfl) (by rw [Try.ntmps77]; simp) ?_; rw [Try.ntmps77]
  simp only [treeV, nextV, Cb.cs, List.cons_append, List.nil_append]
  repeat' (first | refine spD (fun _ => ?_) (fun _ => ?_) | refine spF (fun _ => ?_) (fun _ => ?_) | (apply gT; (exact rfl)) | (apply off; (exact rfl); (exact rfl)) | (apply condT; (exact rfl)) | (apply condF; (exact rfl)) | ((first | (apply stp0; (exact rfl); (exact rfl)) | (apply stpN0; (exact rfl)) | apply gT | apply condT | ((first | apply bodyQ_d0 | apply bodyQ_d1 | apply bodyQ_d2 | apply bodyQ_d3 | apply bodyQ_d4); (exact .inr rfl); (rw [Try.results77]))); (first | (focus (simp only [go_sem, ↓reduceIte, Nat.reduceEqDiff, Nat.reduceBEq, Nat.reduceAdd, Nat.reduceLeDiff, Nat.reduceMul, Nat.reduceLT, Int.reduceToNat, reduceCtorEq, Int.reduceBEq, Int.reduceBNe, Int.reduceLT, Int.reduceLE, Int.reduceGT, Int.reduceGE, get_snd0, set_snd0, List.length_append, List.length_cons, List.length_nil] <;> rfl)) | exact rfl); (first | (fail_if_success (show okD _ _ _ _ _ _ _ _ _)) | (first | exact okT | exact okN | exact okE rfl)); (first | (fail_if_success (show Bel _ _)) | (focus first | exact .val _ | (simp [oneOf, Bel_iff_tup, Bel_iff_agg, Bel_iff_rsl, Bel_iff_fn, Bel_iff_rptr, Bel_val]; done)))) | refine thenQ_n ?_ | refine thenQ_r ?_ | refine thenQ_e ?_ | refine blockQ_n ?_ | refine blockQ_r ?_ | refine blockQ_e ?_ | (apply blockQ_o; (exact rfl)) | refine Awp.seq ?_ | refine Awp.skip ?_ | refine Awp.block ?_ | refine reg (fun s => s == 5 || s == 6) ?_ | (apply drwE mixed (fun s => s == 5 || s == 6); (kernel_rfl)) | refine fin ?_ | refine Awp.ret ?_ | refine Awp.exit ?_ | ((first | (apply off; (exact rfl)) | apply condF); (first | (focus (simp only [go_sem, ↓reduceIte, Nat.reduceEqDiff, Nat.reduceBEq, Nat.reduceAdd, Nat.reduceLeDiff, Nat.reduceMul, Nat.reduceLT, Int.reduceToNat, reduceCtorEq, Int.reduceBEq, Int.reduceBNe, Int.reduceLT, Int.reduceLE, Int.reduceGT, Int.reduceGE, get_snd0, set_snd0, List.length_append, List.length_cons, List.length_nil] <;> rfl)) | exact rfl)))
  refine cal rfl rfl ?_ ?_ (show ACallV Try.prog (.fn (.func 112) [.mptr H.length 0 0, .rptr [treeV c] 0, .mptr (H.length + 1) 0 0]) [iv k] _ _ from hcall) ?_
  · (first | (focus (simp only [go_sem, ↓reduceIte, Nat.reduceEqDiff, Nat.reduceBEq, Nat.reduceAdd, Nat.reduceLeDiff, Nat.reduceMul, Nat.reduceLT, Int.reduceToNat, reduceCtorEq, Int.reduceBEq, Int.reduceBNe, Int.reduceLT, Int.reduceLE, Int.reduceGT, Int.reduceGE, treeV, nextV, Cb.cs, List.cons_append, List.nil_append]; done)) | (focus (simp only [go_sem, ↓reduceIte, Nat.reduceEqDiff, Nat.reduceBEq, Nat.reduceAdd, Nat.reduceLeDiff, Nat.reduceMul, Nat.reduceLT, Int.reduceToNat, reduceCtorEq, Int.reduceBEq, Int.reduceBNe, Int.reduceLT, Int.reduceLE, Int.reduceGT, Int.reduceGE, treeV, nextV, Cb.cs, List.cons_append, List.nil_append]; rfl)) | rfl)
  · (first | (focus (simp only [go_sem, ↓reduceIte, Nat.reduceEqDiff, Nat.reduceBEq, Nat.reduceAdd, Nat.reduceLeDiff, Nat.reduceMul, Nat.reduceLT, Int.reduceToNat, reduceCtorEq, Int.reduceBEq, Int.reduceBNe, Int.reduceLT, Int.reduceLE, Int.reduceGT, Int.reduceGE]; done)) | (focus (simp only [go_sem, ↓reduceIte, Nat.reduceEqDiff, Nat.reduceBEq, Nat.reduceAdd, Nat.reduceLeDiff, Nat.reduceMul, Nat.reduceLT, Int.reduceToNat, reduceCtorEq, Int.reduceBEq, Int.reduceBNe, Int.reduceLT, Int.reduceLE, Int.reduceGT, Int.reduceGE]; rfl)) | rfl)
  rintro v1 H2 ⟨hG, _, ⟨a, hob, hO, hnx⟩, hfn⟩
  simp only [List.nil_append, nats_ints] at hO
  obtain ⟨v, hv⟩ : ∃ v, v = (pre c.l c.l.length k).map (fun (n : Nat) => (n : Int)) := ⟨_, rfl⟩
  rw [← hv] at hO
  have hvn : v ≠ [] := by rw [hv, pre_succ _ _ (by omega)]; simp
  have hvl : v.length = (sub c.l k).length := by rw [hv, List.length_map, (pre_perm (good_tr hg) hk).length_eq]
  have hvs : ints (sortS v) = nats (sub c.l k) := by rw [hv, sorted_sub hg hk, ← nats_ints]
  have hv20 : v.length ≤ 20 := by rw [hv]; simpa using hpl
  have hne : ints v ≠ [] := by intro h; exact hvn (by simpa [ints] using h)
  clear hv
  generalize hes : ints v = es at hO hne
  cases hO with
  | nil => exact absurd rfl hne
  | fix => exact absurd rfl (hnx _)
  | row _ hlo hb =>
    rename_i b _
    subst hes
    have hsrt := sortOwn_ok H2 hb (by omega)
    rw [hvs] at hsrt
    have hne2 : b ≠ H.length := by rintro rfl; rw [hb] at hob; simp at hob
    have hob2 := (heldO hne2 hob).1 (.cells (nats (sub c.l k)) 3)
    have hil := ints_len v
    repeat' (first | refine spD (fun _ => ?_) (fun _ => ?_) | refine spF (fun _ => ?_) (fun _ => ?_) | (apply gT; (exact rfl)) | (apply off; (exact rfl); (exact rfl)) | (apply condT; (exact rfl)) | (apply condF; (exact rfl)) | ((first | (apply stp0; (exact rfl); (exact rfl)) | (apply stpN0; (exact rfl)) | apply gT | apply condT | ((first | apply bodyQ_d0 | apply bodyQ_d1 | apply bodyQ_d2 | apply bodyQ_d3 | apply bodyQ_d4); (exact .inr rfl); (rw [Try.results77]))); (first | (focus (simp only [go_sem, ↓reduceIte, Nat.reduceEqDiff, Nat.reduceBEq, Nat.reduceAdd, Nat.reduceLeDiff, Nat.reduceMul, Nat.reduceLT, Int.reduceToNat, reduceCtorEq, Int.reduceBEq, Int.reduceBNe, Int.reduceLT, Int.reduceLE, Int.reduceGT, Int.reduceGE, hob, hob2, hil] <;> rfl)) | exact rfl); (first | (fail_if_success (show okD _ _ _ _ _ _ _ _ _)) | (first | exact okT | exact okN | exact okE rfl)); (first | (fail_if_success (show Bel _ _)) | (focus first | exact .val _ | (simp [oneOf, Bel_iff_tup, Bel_iff_agg, Bel_iff_rsl, Bel_iff_fn, Bel_iff_rptr, Bel_val]; done)))) | (apply calTo0; (exact rfl); (iterate 2 (simp only [go_sem, ↓reduceIte, Nat.reduceEqDiff, Nat.reduceBEq, Nat.reduceAdd, Nat.reduceLeDiff, Nat.reduceMul, Nat.reduceLT, Int.reduceToNat, reduceCtorEq, Int.reduceBEq, Int.reduceBNe, Int.reduceLT, Int.reduceLE, Int.reduceGT, Int.reduceGE, hob, hob2, hil]; rfl)); (first | exact hsrt); (first | exact okT | exact okN | exact okE rfl)) | refine thenQ_n ?_ | refine thenQ_r ?_ | refine thenQ_e ?_ | refine blockQ_n ?_ | refine blockQ_r ?_ | refine blockQ_e ?_ | (apply blockQ_o; (exact rfl)) | refine Awp.seq ?_ | refine Awp.skip ?_ | refine Awp.block ?_ | refine reg (fun s => s == 6) ?_ | (apply drwE mixed (fun s => s == 6); (kernel_rfl)) | refine fin ?_ | refine Awp.ret ?_ | refine Awp.exit ?_ | ((first | (apply off; (exact rfl)) | apply condF); (first | (focus (simp only [go_sem, ↓reduceIte, Nat.reduceEqDiff, Nat.reduceBEq, Nat.reduceAdd, Nat.reduceLeDiff, Nat.reduceMul, Nat.reduceLT, Int.reduceToNat, reduceCtorEq, Int.reduceBEq, Int.reduceBNe, Int.reduceLT, Int.reduceLE, Int.reduceGT, Int.reduceGE, hob, hob2, hil] <;> rfl)) | exact rfl)))
    refine bodyQ_frzG (.inr rfl) (by rw [Try.results77]; simp only [go_sem, ↓reduceIte, Nat.reduceEqDiff, Nat.reduceBEq, Nat.reduceAdd, Nat.reduceLeDiff, Nat.reduceMul, Nat.reduceLT, Int.reduceToNat, reduceCtorEq, Int.reduceBEq, Int.reduceBNe, Int.reduceLT, Int.reduceLE, Int.reduceGT, Int.reduceGE]; rfl) (hG.set hlo _) (List.getElem?_set_self (List.getElem?_eq_some_iff.1 hb).1) hlo ?_ (plainNats _)
    rw [nats_len]; exact hvl

end Go.Proofs.Ytphfdbmbdaninaa.Ab
