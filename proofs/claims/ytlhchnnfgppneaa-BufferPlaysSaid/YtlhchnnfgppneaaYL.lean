/- The reference's Put: the record is put in its place. The reference's Put: what goes when there is no room. The reference's Put. The reference's Put, whole. -/
import Derived.Test.YtlhchnnfgppneaaYK
import Derived.Test.YtlhchnnfgppneaaYH
import Derived.Test.YtlhchnnfgppneaaYI
namespace Go.Proofs.Ytlhchnnfgppneaa.Ab
open Go Go.RowKit Go.Proofs
set_option linter.unusedSimpArgs false
set_option linter.unusedVariables false
attribute [local irreducible] Awp wpO thenQ blockQ bodyQ ACalls stepA

theorem hds_take (L : List Hd) (i : Nat) : hds (L.take i) = (hds L).take i := by unfold hds; rw [List.map_take]
theorem hds_drop (L : List Hd) (i : Nat) : hds (L.drop i) = (hds L).drop i := by unfold hds; rw [List.map_drop]
theorem hds_cell (L : List Hd) : ∀ e ∈ hds L, e.all AV.isCell = true := by intro e he; obtain ⟨h, _, rfl⟩ := List.mem_map.1 he; rfl
theorem hds_zero {L : List Hd} {i : Nat} (hi : i ≤ L.length) : i = 0 ∨ i = L.length ∨ ((hds L)[i]?).map List.length = some 7 := by
  by_cases h : i < L.length
  · obtain ⟨x, hx⟩ := nth h
    right; right
    rw [hds_at hx]; rfl
  · right; left; omega

theorem slTo {L : List Hd} {i : Nat} (hi : i ≤ L.length) (ex : Bool) : sliceA Try.prog 44 (.rsl (hds L) ex) none (some (iv i)) none = some (.rsl (hds (L.take i)) (ex && (i == L.length))) := by
  rw [sl44]
  unfold sliceB bnd
  have e0 : (0 : Int) ≤ (i : Int) := by omega
  have h7 : 0 = i ∨ ((hds L)[0]?).map List.length = some 7 := by
    rcases hds_zero (L := L) (Nat.zero_le _) with h | h | h
    · cases L with
      | nil => left; simp at hi; omega
      | cons x l => right; rfl
    · left; omega
    · exact .inr h
  simp only [e0, if_true, Int.toNat_natCast, hds_len, Nat.zero_le, hi, Nat.le_refl, true_and, h7, Option.isSome_none, Option.isSome_some, implies_true, and_true, List.drop_zero, hds_take]
  simp
theorem slFrom {L : List Hd} {i : Nat} (hi : i ≤ L.length) (ex : Bool) : sliceA Try.prog 44 (.rsl (hds L) ex) (some (iv i)) none none = some (.rsl (hds (L.drop i)) ex) := by
  rw [sl44]
  unfold sliceB bnd
  have e0 : (0 : Int) ≤ (i : Int) := by omega
  have h7 : i = L.length ∨ ((hds L)[i]?).map List.length = some 7 := by
    rcases hds_zero hi with h | h | h
    · subst h
      cases L with
      | nil => left; rfl
      | cons x l => right; rfl
    · exact .inl h
    · exact .inr h
  simp only [e0, if_true, Int.toNat_natCast, hds_len, hi, Nat.le_refl, true_and, h7, Option.isSome_none, implies_true, and_true, hds_drop]
  have e2 : List.take L.length (hds L) = hds L := by rw [← hds_len L, List.take_length]
  simp [e2]

/-- a row that has been put together -/
theorem Own.hdo {lo : Nat} {K : Hp} {a : AV} {L : List Hd} (h : Own lo 53 K a (hds L)) (hn : L ≠ []) (hx : ∀ es ex, a ≠ .rsl es ex) : ∃ o, a = .msl o 0 L.length ∧ lo ≤ o ∧ K[o]? = some (.cells (hds L) 53) := by
  generalize hes : hds L = es at h
  cases h with
  | nil => cases L with
    | nil => exact absurd rfl hn
    | cons x l => simp [hds] at hes
  | fix => exact absurd rfl (hx _ _)
  | row hne hlo hb => exact ⟨_, by rw [← hes, hds_len], hlo, hb⟩

set_option maxRecDepth 8000 in
set_option maxHeartbeats 4000000 in
theorem rput13 {K : Hp} {q : Nat} {c tm : Int} {L : List Hd} {r : Item} {T : Env} {Q : Exit → Env → Hp → Prop} (hb : K[q]? = some (.cells [[iv c, iv tm, .rsl (hds L) false]] 73)) (hl : L.length ≤ 256) (i : Nat) (hi : i ≤ L.length)
    (t0 : T 0 = .mptr q 0 0) (t3 : T 3 = .rptr r.cs 0) (t7 : T 7 = iv i)
    (hQ : ∀ T' K' o, T' 0 = .mptr q 0 0 → K.length ≤ K'.length → (∀ j, j < K.length → j ≠ q → K'[j]? = K[j]?) → K.length ≤ o → K'[q]? = some (.cells [[iv c, iv tm, .msl o 0 (L.length + 1)]] 73) → K'[o]? = some (.cells (hds (insA i ⟨r, false, -1⟩ L)) 53) → Q .normal T' K') :
    Awp Try.prog 147 none (hdC (tl (tl (tl (tl (tl (tl (Try.f31.body.getD .skip)))))))) T K Q := by
  unfold Try.f31
  simp only [tl, hdC, inC, Option.getD_some]
  have hql := (List.getElem?_eq_some_iff.1 hb).1
  simp only [Item.cs] at t3
  have s1 := slTo hi false
  have s2 := slFrom hi false
  simp only [Bool.false_and] at s1
  obtain ⟨X1, hX1⟩ : ∃ X1, X1 = L.take i := ⟨_, rfl⟩
  obtain ⟨X3, hX3⟩ : ∃ X3, X3 = L.drop i := ⟨_, rfl⟩
  rw [← hX1] at s1
  rw [← hX3] at s2
  have l1 : X1.length ≤ 256 := by rw [hX1, List.length_take]; omega
  have l3 : X3.length ≤ 256 := by rw [hX3, List.length_drop]; omega
  have hO1 : OwnX K.length 53 7 56 K (.rsl [] true) [] (hds X1) := ⟨.fix, by simp, hds_seven _, hds_cell _, by rw [hds_len]; simp; omega⟩
  have hW1 := app_own hO1.own (Nat.le_refl _) (xs := hds X1)
  rw [List.nil_append] at hW1
  have hG1 := app_grow hO1.own (xs := hds X1) (Nat.le_refl _) (Grow.refl K)
  have hO2 : OwnR K.length 53 7 56 (appV K (.rsl [] true) [] (hds X1) 53).2 (appV K (.rsl [] true) [] (hds X1) 53).1 (hds X1) := ⟨hW1, hds_seven _, by rw [hds_len]; omega⟩
  have hG2 : Grow K (ownK (appV K (.rsl [] true) [] (hds X1) 53).2 (appV K (.rsl [] true) [] (hds X1) 53).1 ++ [.cells (hds X1 ++ [[iv r.id, iv r.cls, iv r.made, iv r.size, iv r.pk, bv false, iv (-1)]]) 53]) := (hW1.grow (Nat.le_refl _) hG1).app _
  have e2 : hds X1 ++ [[iv r.id, iv r.cls, iv r.made, iv r.size, iv r.pk, bv false, iv (-1)]] = hds (X1 ++ [⟨r, false, -1⟩]) := by simp [hds, Hd.cs]
  have hW2 : Own K.length 53 (ownK (appV K (.rsl [] true) [] (hds X1) 53).2 (appV K (.rsl [] true) [] (hds X1) 53).1 ++ [.cells (hds X1 ++ [[iv r.id, iv r.cls, iv r.made, iv r.size, iv r.pk, bv false, iv (-1)]]) 53]) (.msl (appV K (.rsl [] true) [] (hds X1) 53).2.length 0 ((hds X1).length + 1)) (hds X1 ++ [[iv r.id, iv r.cls, iv r.made, iv r.size, iv r.pk, bv false, iv (-1)]]) := by
    have e3 : (hds X1).length + 1 = (hds X1 ++ [[iv r.id, iv r.cls, iv r.made, iv r.size, iv r.pk, bv false, iv (-1)]]).length := by simp [hds_len]
    rw [e3]
    refine .row (by simp [hds]) hG1.len ?_
    have := get_new (ownK (appV K (.rsl [] true) [] (hds X1) 53).2 (appV K (.rsl [] true) [] (hds X1) 53).1) (.cells (hds X1 ++ [[iv r.id, iv r.cls, iv r.made, iv r.size, iv r.pk, bv false, iv (-1)]]) 53)
    rw [ownK_len] at this
    exact this
  have hO3 : OwnX K.length 53 7 56 (ownK (appV K (.rsl [] true) [] (hds X1) 53).2 (appV K (.rsl [] true) [] (hds X1) 53).1 ++ [.cells (hds X1 ++ [[iv r.id, iv r.cls, iv r.made, iv r.size, iv r.pk, bv false, iv (-1)]]) 53]) (.msl (appV K (.rsl [] true) [] (hds X1) 53).2.length 0 ((hds X1).length + 1)) (hds X1 ++ [[iv r.id, iv r.cls, iv r.made, iv r.size, iv r.pk, bv false, iv (-1)]]) (hds X3) :=
    ⟨hW2, by rw [e2]; exact hds_seven _, hds_seven _, hds_cell _, by rw [e2, hds_len, hds_len]; simp; omega⟩
  have hW3 := app_own hO3.own hG2.len (xs := hds X3)
  have hG3 := app_grow hO3.own (xs := hds X3) (Nat.le_refl _) hG2
  have g1 := hG1.get hb
  have g2 := hG2.get hb
  have g3 := hG3.get hb
  have hi2 : (i : Int) ≤ (L.length : Int) := Int.ofNat_le.2 hi
  repeat' (first | refine spD (fun _ => ?_) (fun _ => ?_) | refine spF (fun _ => ?_) (fun _ => ?_) | (apply gT; (exact rfl)) | (apply off; (exact rfl); (exact rfl)) | (apply condT; (exact rfl)) | (apply condF; (exact rfl)) | ((first | (apply stp0; (exact rfl); (exact rfl)) | (apply stpN0; (exact rfl)) | apply gT | apply condT | ((first | apply bodyQ_d0 | apply bodyQ_d1 | apply bodyQ_d2 | apply bodyQ_d3 | apply bodyQ_d4); (exact .inr rfl); (rw [Try.results31]))); (first | (focus (simp only [go_sem, ↓reduceIte, simprocAttr, t0, t3, t7, hb, g1, g2, g3, s1, s2] <;> rfl)) | exact rfl); (first | (fail_if_success (show okD _ _ _ _ _ _ _ _ _)) | (first | exact trivial | exact ⟨fun _ => rfl, fun _ _ => rfl, fun h => Bool.noConfusion (show false = true from h)⟩ | (refine ⟨fun _ => rfl, fun _ _ => rfl, fun _ H2 hk => ?_⟩; have e := (hk (q) (beq_self_eq_true _)).trans ((by first | exact hb | exact g1 | exact g2 | exact g3)); unfold PerfTo; simp only [callOf]; (focus first | (simp only [go_sem, ↓reduceIte, simprocAttr, t0, t3, t7, hb, g1, g2, g3, s1, s2, e]; done) | (simp only [go_sem, ↓reduceIte, simprocAttr, t0, t3, t7, hb, g1, g2, g3, s1, s2, e]; rfl))) | (refine ⟨fun h => Bool.noConfusion (show true = false from h), fun b hQ => ?_, fun h => Bool.noConfusion (show false = true from h)⟩; have hQ' := eq_of_beq hQ; subst hQ'; first | exact g1.trans hb.symm | exact (g2.trans g1.symm) | exact (g3.trans g2.symm)))); (first | (fail_if_success (show Bel _ _)) | (focus first | exact .val _ | (simp [oneOf, Bel_iff_tup, Bel_iff_agg, Bel_iff_rsl, Bel_iff_fn, Bel_iff_rptr, Bel_val]; done)))) | (apply stpApp; (exact rfl); (first | exact hO2); (iterate 2 (first | (focus (simp only [go_sem, ↓reduceIte, simprocAttr, t0, t3, t7, hb, g1, g2, g3, s1, s2] <;> rfl)) | rfl)); (first | rfl | (simp [AV.isCell]; done)); (first | rfl | (simp; done)); (first | exact ap39 | exact ap44 | exact ap46 | exact ap61 | exact ap63 | exact ap75 | exact ap86 | exact ap101 | exact ap102); (first | exact trivial | exact ⟨fun _ => rfl, fun _ _ => rfl, fun h => Bool.noConfusion (show false = true from h)⟩ | (refine ⟨fun _ => rfl, fun _ _ => rfl, fun _ H2 hk => ?_⟩; have e := (hk (q) (beq_self_eq_true _)).trans ((by first | exact hb | exact g1 | exact g2 | exact g3)); unfold PerfTo; simp only [callOf]; (focus first | (simp only [go_sem, ↓reduceIte, simprocAttr, t0, t3, t7, hb, g1, g2, g3, s1, s2, e]; done) | (simp only [go_sem, ↓reduceIte, simprocAttr, t0, t3, t7, hb, g1, g2, g3, s1, s2, e]; rfl))) | (refine ⟨fun h => Bool.noConfusion (show true = false from h), fun b hQ => ?_, fun h => Bool.noConfusion (show false = true from h)⟩; have hQ' := eq_of_beq hQ; subst hQ'; first | exact g1.trans hb.symm | exact (g2.trans g1.symm) | exact (g3.trans g2.symm)))) | (apply stpAll; (exact rfl); (first | exact hO1 | exact hO3); (iterate 2 (first | (focus (simp only [go_sem, ↓reduceIte, simprocAttr, t0, t3, t7, hb, g1, g2, g3, s1, s2] <;> rfl)) | rfl)); (first | exact ap39 | exact ap44 | exact ap46 | exact ap61 | exact ap63 | exact ap75 | exact ap86 | exact ap101 | exact ap102); (first | exact trivial | exact ⟨fun _ => rfl, fun _ _ => rfl, fun h => Bool.noConfusion (show false = true from h)⟩ | (refine ⟨fun _ => rfl, fun _ _ => rfl, fun _ H2 hk => ?_⟩; have e := (hk (q) (beq_self_eq_true _)).trans ((by first | exact hb | exact g1 | exact g2 | exact g3)); unfold PerfTo; simp only [callOf]; (focus first | (simp only [go_sem, ↓reduceIte, simprocAttr, t0, t3, t7, hb, g1, g2, g3, s1, s2, e]; done) | (simp only [go_sem, ↓reduceIte, simprocAttr, t0, t3, t7, hb, g1, g2, g3, s1, s2, e]; rfl))) | (refine ⟨fun h => Bool.noConfusion (show true = false from h), fun b hQ => ?_, fun h => Bool.noConfusion (show false = true from h)⟩; have hQ' := eq_of_beq hQ; subst hQ'; first | exact g1.trans hb.symm | exact (g2.trans g1.symm) | exact (g3.trans g2.symm)))) | refine thenQ_n ?_ | refine thenQ_r ?_ | refine thenQ_e ?_ | refine blockQ_n ?_ | refine blockQ_r ?_ | refine blockQ_e ?_ | (apply blockQ_o; (exact rfl)) | refine Awp.seq ?_ | refine Awp.skip ?_ | refine Awp.block ?_ | refine reg (fun s => false) ?_ | (apply drwL mixed (fun s => false) ⟨fun i => i == 8 || i == 12 || i == 19, fun i => i == 5 || i == 9 || i == 16, fun b => b == q⟩; (exact rfl); (kernel_rfl); (kernel_rfl); simp only [List.pop_toArray, List.dropLast_cons_cons, List.dropLast_singleton, List.map_cons, List.map_nil]) | refine fin ?_ | refine Awp.ret ?_ | refine Awp.exit ?_ | ((first | (apply off; (exact rfl)) | apply condF); (first | (focus (simp only [go_sem, ↓reduceIte, simprocAttr, t0, t3, t7, hb, g1, g2, g3, s1, s2] <;> rfl)) | exact rfl)))
  all_goals first | contradiction | (exfalso; omega) | skip
  have e5 : hds X1 ++ [[iv r.id, iv r.cls, iv r.made, iv r.size, iv r.pk, bv false, iv (-1)]] ++ hds X3 = hds (insA i ⟨r, false, -1⟩ L) := by simp [insA, hds, hX1, hX3, Hd.cs]
  have hnr : ∀ es ex, (appV (ownK (appV K (.rsl [] true) [] (hds X1) 53).2 (appV K (.rsl [] true) [] (hds X1) 53).1 ++ [.cells (hds X1 ++ [[iv r.id, iv r.cls, iv r.made, iv r.size, iv r.pk, bv false, iv (-1)]]) 53]) (.msl (appV K (.rsl [] true) [] (hds X1) 53).2.length 0 ((hds X1).length + 1)) (hds X1 ++ [[iv r.id, iv r.cls, iv r.made, iv r.size, iv r.pk, bv false, iv (-1)]]) (hds X3) 53).1 ≠ .rsl es ex := by unfold appV; intro es ex; split <;> (intro e; cases e)
  rw [e5] at hW3
  generalize (appV (ownK (appV K (.rsl [] true) [] (hds X1) 53).2 (appV K (.rsl [] true) [] (hds X1) 53).1 ++ [.cells (hds X1 ++ [[iv r.id, iv r.cls, iv r.made, iv r.size, iv r.pk, bv false, iv (-1)]]) 53]) (.msl (appV K (.rsl [] true) [] (hds X1) 53).2.length 0 ((hds X1).length + 1)) (hds X1 ++ [[iv r.id, iv r.cls, iv r.made, iv r.size, iv r.pk, bv false, iv (-1)]]) (hds X3) 53) = V3 at *
  obtain ⟨o, eo, hlo, hbo⟩ := hW3.hdo (by simp [insA]) hnr
  obtain ⟨v3, K3⟩ := V3
  simp only at eo hbo g3 hG3 ⊢
  rw [eo, insA_len]
  repeat' (first | refine spD (fun _ => ?_) (fun _ => ?_) | refine spF (fun _ => ?_) (fun _ => ?_) | (apply gT; (exact rfl)) | (apply off; (exact rfl); (exact rfl)) | (apply condT; (exact rfl)) | (apply condF; (exact rfl)) | ((first | (apply stp0; (exact rfl); (exact rfl)) | (apply stpN0; (exact rfl)) | apply gT | apply condT | ((first | apply bodyQ_d0 | apply bodyQ_d1 | apply bodyQ_d2 | apply bodyQ_d3 | apply bodyQ_d4); (exact .inr rfl); (rw [Try.results31]))); (first | (focus (simp only [go_sem, ↓reduceIte, simprocAttr, g3] <;> rfl)) | exact rfl); (first | (fail_if_success (show okD _ _ _ _ _ _ _ _ _)) | (first | exact okT | exact okN | exact okE rfl)); (first | (fail_if_success (show Bel _ _)) | (focus first | exact .val _ | (simp [oneOf, Bel_iff_tup, Bel_iff_agg, Bel_iff_rsl, Bel_iff_fn, Bel_iff_rptr, Bel_val]; done)))) | refine thenQ_n ?_ | refine thenQ_r ?_ | refine thenQ_e ?_ | refine blockQ_n ?_ | refine blockQ_r ?_ | refine blockQ_e ?_ | (apply blockQ_o; (exact rfl)) | refine Awp.seq ?_ | refine Awp.skip ?_ | refine Awp.block ?_ | refine reg (fun s => false) ?_ | (apply drwE mixed (fun s => false); (kernel_rfl)) | refine fin ?_ | refine Awp.ret ?_ | refine Awp.exit ?_ | ((first | (apply off; (exact rfl)) | apply condF); (first | (focus (simp only [go_sem, ↓reduceIte, simprocAttr, g3] <;> rfl)) | exact rfl)))
  all_goals first | contradiction | (exfalso; omega) | skip
  refine hQ _ _ o ?_ ?_ ?_ hlo ?_ ?_
  · (first | (focus (simp only [go_sem, ↓reduceIte, simprocAttr, t0]; first | done | rfl)) | rfl)
  · rw [List.length_set]; exact hG3.len
  · intro j hj hjq
    rw [List.getElem?_set_ne (Ne.symm hjq)]; exact hG3.old j hj
  · exact (heldS g3).1 _
  · rw [List.getElem?_set_ne (by omega)]; exact hbo

end Go.Proofs.Ytlhchnnfgppneaa.Ab
namespace Go.Proofs.Ytlhchnnfgppneaa.Ab
open Go Go.RowKit Go.Proofs
set_option linter.unusedSimpArgs false
set_option linter.unusedVariables false
attribute [local irreducible] Awp wpO thenQ blockQ bodyQ ACalls stepA

/-- between the rounds -/
structure RCut (H K : Hp) (q o : Nat) (a0 : AV) (c tm : Int) (S : Bf) (a : AV) (ds : List Int) : Prop where
  hb : K[q]? = some (.cells [[iv c, iv tm, .msl o 0 S.L.length]] 73)
  row : ∃ v, K[o]? = some (.cells (hds v) 53) ∧ S.L.length ≤ v.length ∧ v.take S.L.length = S.L
  good : Good S
  cap : S.cap = c
  lo : H.length ≤ o
  own : Own H.length 2 K a (ints ds)
  len0 : H.length ≤ K.length
  old : ∀ j, j < H.length → j ≠ q → (∀ m, a0 ≠ .msl j 0 m) → K[j]? = H[j]?
  ne : ∀ m, a ≠ .msl o 0 m
  ql : q < H.length
  len : ds.length + S.L.length ≤ 257
theorem Own.row_lo {lo : Nat} {t : TypeId} {H : Hp} {a : AV} {es : List (List AV)} (h : Own lo t H a es) {b o n : Nat} (e : a = .msl b o n) : lo ≤ b := by
  cases h with
  | nil => cases e
  | fix => cases e
  | row _ hlo _ => cases e; exact hlo
theorem Own.setNe {lo : Nat} {t : TypeId} {H : Hp} {a : AV} {es : List (List AV)} (h : Own lo t H a es) {s : Nat} (hn : ∀ m, a ≠ .msl s 0 m) (c : AObj) : Own lo t (H.set s c) a es := by
  cases h with
  | nil => exact .nil
  | fix => exact .fix
  | row hne hlo hb => exact .row hne hlo (by rw [List.getElem?_set_ne (fun e => hn _ (by rw [e]))]; exact hb)
section
variable {H K : Hp} {q o : Nat} {a0 : AV} {c tm : Int} {S : Bf} {a : AV} {ds : List Int}
theorem RCut.rq (h : RCut H K q o a0 c tm S a ds) : Rq K q (.msl o 0 S.L.length) c tm S.L := by
  obtain ⟨v, h1, h2, h3⟩ := h.row
  exact ⟨h.hb, by conv => rhs; rw [← h3]
                  exact .row h1 h2⟩
theorem RCut.used (h : RCut H K q o a0 c tm S a ds) : sumH S.L = S.used := h.good.sum.symm
theorem RCut.done (h : RCut H K q o a0 c tm S a ds) : Rq (ownK K a) q (.msl o 0 S.L.length) c tm S.L ∧ H.length ≤ (ownK K a).length ∧ ∀ j, j < H.length → j ≠ q → (∀ m, a0 ≠ .msl j 0 m) → (ownK K a)[j]? = H[j]? := by
  obtain ⟨v, h1, h2, h3⟩ := h.row
  refine ⟨⟨by rw [ownK_low h.own h.ql]; exact h.hb, ?_⟩, by rw [ownK_len]; exact h.len0, fun j hj e1 e2 => by rw [ownK_low h.own hj]; exact h.old j hj e1 e2⟩
  conv => rhs; rw [← h3]
  refine .row ?_ h2
  rw [ownK_get fun o' n e => h.ne n (by rw [e, h.own.zero _ _ _ e])]; exact h1
theorem RCut.press (h : RCut H K q o a0 c tm S a ds) {j : Nat} {x : Hd} {v : List Hd} (hv : K[o]? = some (.cells (hds v) 53)) (hn : S.L.length ≤ v.length) (ht : v.take S.L.length = S.L) (hx : S.L[j]? = some x) (hl : loose x = true) :
    RCut H (K.set o (.cells (hds (v.set j { x with sm := true })) 53)) q o a0 c tm (S.press j) a ds := by
  have hlen : (S.press j).L.length = S.L.length := by rw [press_eq hx]; exact List.length_set ..
  have hqo : o ≠ q := by have := h.ql; have := h.lo; omega
  refine ⟨by rw [hlen]; exact (heldO hqo h.hb).1 _, ⟨_, (heldS hv).1 _, by rw [hlen, List.length_set]; exact hn, ?_⟩, h.good.pressG hx hl, by rw [press_eq hx]; exact h.cap, h.lo, ?_, by rw [List.length_set]; exact h.len0, fun i hi e1 e2 => ?_, h.ne, h.ql, by rw [hlen]; exact h.len⟩
  · rw [hlen, press_eq hx]
    show List.take _ _ = S.L.set j _
    rw [List.take_set, ht]
  · exact h.own.setNe h.ne _
  · rw [List.getElem?_set_ne (by have := h.lo; omega)]; exact h.old i hi e1 e2
theorem RCut.drop (h : RCut H K q o a0 c tm S a ds) {x : Hd} (hx : S.L.getLast? = some x) {m : Nat} (hm : S.L.length = m + 1) :
    RCut H (List.set (ownK K a ++ [AObj.cells (ints ds ++ [[iv x.r.id]]) 2]) q (AObj.cells [[iv c, iv tm, .msl o 0 m]] 73)) q o a0 c tm S.drop (.msl K.length 0 ((ints ds).length + 1)) (ds ++ [S.lastId]) := by
  obtain ⟨d1, d2⟩ := drop_eq hx
  have hs := last_split hx
  have hl : S.drop.L.length = m := by rw [d1]; show S.L.dropLast.length = m; rw [List.length_dropLast]; omega
  obtain ⟨v, h1, h2, h3⟩ := h.row
  have hql := h.ql
  have hlo := h.lo
  have hl0 := h.len0
  have hoK := (List.getElem?_eq_some_iff.1 h1).1
  have hB : ∀ j, j < K.length → j ≠ q → (∀ m, a ≠ .msl j 0 m) → (List.set (ownK K a ++ [AObj.cells (ints ds ++ [[iv x.r.id]]) 2]) q (AObj.cells [[iv c, iv tm, .msl o 0 m]] 73))[j]? = K[j]? := fun j hj e1 e2 => by
    rw [List.getElem?_set_ne (Ne.symm e1), List.getElem?_append_left (by rw [ownK_len]; exact hj), ownK_get fun o' n e => e2 n (by rw [e, h.own.zero _ _ _ e])]
  have hlow : ∀ j, j < H.length → ∀ m, a ≠ .msl j 0 m := fun j hj m e => by have := h.own.row_lo e; omega
  refine ⟨by rw [hl]; exact List.getElem?_set_self (by simp [ownK_len]; omega), ⟨v, ?_, by rw [hl]; omega, ?_⟩, h.good.dropG hx, by rw [d1]; exact h.cap, hlo, ?_, ?_, fun j hj e1 e2 => ?_, fun n e => by cases e; omega, hql, ?_⟩
  · rw [hB o hoK (by omega) h.ne]; exact h1
  · have e3 : S.drop.L = S.L.dropLast := by rw [d1]
    rw [hl, e3, List.dropLast_eq_take, hm, Nat.add_sub_cancel]
    conv => rhs; rw [← h3, List.take_take]
    rw [Nat.min_eq_left (by omega)]
  · rw [d2, ← ints_app]
    have e3 : (ints ds).length + 1 = (ints ds ++ [[iv x.r.id]]).length := by simp
    rw [e3]
    refine .row (by simp) hl0 ?_
    rw [List.getElem?_set_ne (by omega), ← ownK_len K a]
    exact get_new _ _
  · rw [List.length_set, List.length_append, ownK_len]; omega
  · rw [hB j (by omega) e1 (hlow j hj)]; exact h.old j hj e1 e2
  · rw [hl, List.length_append]; have := h.len; simp; omega
end

set_option maxRecDepth 8000 in
set_option maxHeartbeats 8000000 in
theorem rput14 {H K : Hp} {q o : Nat} {a0 : AV} {c tm : Int} {S1 : Bf} {T : Env} {Post : AV → Hp → Prop} (h : RCut H K q o a0 c tm S1 nilS []) (t0 : T 0 = .mptr q 0 0)
    (hq : ∀ (H1 : Hp) n, Rq H1 q (.msl o 0 n) c tm (shr S1.mu S1 []).1.L → H.length ≤ H1.length → (∀ j, j < H.length → j ≠ q → (∀ m, a0 ≠ .msl j 0 m) → H1[j]? = H[j]?) → Post (.tup [.rsl (ints (shr S1.mu S1 []).2) false, iv 0]) H1) :
    Awp Try.prog 147 none (tl (tl (tl (tl (tl (tl (tl (Try.f31.body.getD .skip)))))))) T K (bodyQ Try.prog Try.f31 H Post) := by
  obtain ⟨B31, hB31⟩ : ∃ B, B = bodyQ Try.prog Try.f31 H Post := ⟨_, rfl⟩
  rw [← hB31]
  unfold Try.f31
  simp only [tl, Option.getD_some]
  repeat' (first | refine spD (fun _ => ?_) (fun _ => ?_) | refine spF (fun _ => ?_) (fun _ => ?_) | (apply gT; (exact rfl)) | (apply off; (exact rfl); (exact rfl)) | (apply condT; (exact rfl)) | (apply condF; (exact rfl)) | ((first | (apply stp0; (exact rfl); (exact rfl)) | (apply stpN0; (exact rfl)) | apply gT | apply condT | ((first | apply bodyQ_d0 | apply bodyQ_d1 | apply bodyQ_d2 | apply bodyQ_d3 | apply bodyQ_d4); (exact .inr rfl); (rw [Try.results31]))); (first | (focus (simp only [go_sem, ↓reduceIte, simprocAttr, t0] <;> rfl)) | exact rfl); (first | (fail_if_success (show okD _ _ _ _ _ _ _ _ _)) | (first | exact okT | exact okN | exact okE rfl)); (first | (fail_if_success (show Bel _ _)) | (focus first | exact .val _ | (simp [oneOf, Bel_iff_tup, Bel_iff_agg, Bel_iff_rsl, Bel_iff_fn, Bel_iff_rptr, Bel_val]; done)))) | refine thenQ_n ?_ | refine thenQ_r ?_ | refine thenQ_e ?_ | refine blockQ_n ?_ | refine blockQ_r ?_ | refine blockQ_e ?_ | (apply blockQ_o; (exact rfl)) | refine Awp.seq ?_ | refine Awp.skip ?_ | refine Awp.block ?_ | refine reg (fun s => false) ?_ | (apply drwE mixed (fun s => false); (kernel_rfl)) | refine fin ?_ | refine Awp.ret ?_ | refine Awp.exit ?_ | ((first | (apply off; (exact rfl)) | apply condF); (first | (focus (simp only [go_sem, ↓reduceIte, simprocAttr, t0] <;> rfl)) | exact rfl)))
  all_goals first | contradiction | (exfalso; omega) | skip
  refine Awp.loop (ι := Nat) (fun k T' K' => ∃ S' ds a, T' 0 = .mptr q 0 0 ∧ T' 8 = a ∧ RCut H K' q o a0 c tm S' a ds ∧ S'.mu ≤ k ∧ shr k S' ds = shr S1.mu S1 []) (fun k => k) S1.mu ?_ ?_
  · refine ⟨S1, [], nilS, ?_, ?_, h, Nat.le_refl _, rfl⟩
    · (first | (focus (simp only [go_sem, ↓reduceIte, simprocAttr, t0]; first | done | rfl)) | rfl)
    · (first | (focus (simp only [go_sem, ↓reduceIte, simprocAttr]; first | done | rfl)) | rfl)
  clear t0 T
  rintro k T K' ⟨S', ds, a, t0, t8, hC, hmu, hsh⟩
  have hb := hC.hb
  have hcap := hC.cap
  have hused := hC.used
  have hlen257 := hC.good.len
  have hU := rUsed_ok hC.rq hC.good.ok hlen257
  have hLo := rloose_ok hC.rq hlen257
  rw [hused] at hU
  by_cases ho : S'.over
  · cases k with
    | zero =>
      exfalso
      obtain ⟨x, hx⟩ := over_ne hC.good ho
      have := mu_drop hx
      omega
    | succ k =>
      obtain ⟨x, hx⟩ := over_ne hC.good ho
      refine Awp.seq (Awp.mono (Q := fun e T' J => e = .normal ∧ T' 0 = .mptr q 0 0 ∧ T' 8 = a ∧ J = K') ?_ ?_)
      · by_cases hu : S'.used > c
        · repeat' (first | refine spD (fun _ => ?_) (fun _ => ?_) | refine spF (fun _ => ?_) (fun _ => ?_) | (apply gT; (exact rfl)) | (apply off; (exact rfl); (exact rfl)) | (apply condT; (exact rfl)) | (apply condF; (exact rfl)) | ((first | (apply stp0; (exact rfl); (exact rfl)) | (apply stpN0; (exact rfl)) | apply gT | apply condT | ((first | apply bodyQ_d0 | apply bodyQ_d1 | apply bodyQ_d2 | apply bodyQ_d3 | apply bodyQ_d4); (exact .inr rfl); (rw [Try.results31]))); (first | (focus (simp only [go_sem, ↓reduceIte, simprocAttr, t0, t8, hb, hu] <;> rfl)) | exact rfl); (first | (fail_if_success (show okD _ _ _ _ _ _ _ _ _)) | (first | exact okT | exact okN | exact okE rfl)); (first | (fail_if_success (show Bel _ _)) | (focus first | exact .val _ | (simp [oneOf, Bel_iff_tup, Bel_iff_agg, Bel_iff_rsl, Bel_iff_fn, Bel_iff_rptr, Bel_val]; done)))) | (apply calTo0; (exact rfl); (iterate 2 (simp only [go_sem, ↓reduceIte, simprocAttr, t0, t8, hb, hu]; rfl)); (first | exact hU); (first | exact okT | exact okN | exact okE rfl)) | refine thenQ_n ?_ | refine thenQ_r ?_ | refine thenQ_e ?_ | refine blockQ_n ?_ | refine blockQ_r ?_ | refine blockQ_e ?_ | (apply blockQ_o; (exact rfl)) | refine Awp.seq ?_ | refine Awp.skip ?_ | refine Awp.block ?_ | refine reg (fun s => false) ?_ | (apply drwE mixed (fun s => false); (kernel_rfl)) | refine fin ?_ | refine Awp.ret ?_ | refine Awp.exit ?_ | ((first | (apply off; (exact rfl)) | apply condF); (first | (focus (simp only [go_sem, ↓reduceIte, simprocAttr, t0, t8, hb, hu] <;> rfl)) | exact rfl)))
          all_goals first | contradiction | (exfalso; omega) | skip
          refine ⟨rfl, ?_, ?_, rfl⟩
          · (first | (focus (simp only [go_sem, ↓reduceIte, simprocAttr, t0]; first | done | rfl)) | rfl)
          · (first | (focus (simp only [go_sem, ↓reduceIte, simprocAttr, t8]; first | done | rfl)) | rfl)
        · have hn : (S'.L.length : Int) > 256 := by
            unfold Bf.over at ho
            rw [hcap] at ho
            rcases ho with ho | ho
            · exact absurd ho hu
            · omega
          repeat' (first | refine spD (fun _ => ?_) (fun _ => ?_) | refine spF (fun _ => ?_) (fun _ => ?_) | (apply gT; (exact rfl)) | (apply off; (exact rfl); (exact rfl)) | (apply condT; (exact rfl)) | (apply condF; (exact rfl)) | ((first | (apply stp0; (exact rfl); (exact rfl)) | (apply stpN0; (exact rfl)) | apply gT | apply condT | ((first | apply bodyQ_d0 | apply bodyQ_d1 | apply bodyQ_d2 | apply bodyQ_d3 | apply bodyQ_d4); (exact .inr rfl); (rw [Try.results31]))); (first | (focus (simp only [go_sem, ↓reduceIte, simprocAttr, t0, t8, hb, hu, hn] <;> rfl)) | exact rfl); (first | (fail_if_success (show okD _ _ _ _ _ _ _ _ _)) | (first | exact okT | exact okN | exact okE rfl)); (first | (fail_if_success (show Bel _ _)) | (focus first | exact .val _ | (simp [oneOf, Bel_iff_tup, Bel_iff_agg, Bel_iff_rsl, Bel_iff_fn, Bel_iff_rptr, Bel_val]; done)))) | (apply calTo0; (exact rfl); (iterate 2 (simp only [go_sem, ↓reduceIte, simprocAttr, t0, t8, hb, hu, hn]; rfl)); (first | exact hU); (first | exact okT | exact okN | exact okE rfl)) | refine thenQ_n ?_ | refine thenQ_r ?_ | refine thenQ_e ?_ | refine blockQ_n ?_ | refine blockQ_r ?_ | refine blockQ_e ?_ | (apply blockQ_o; (exact rfl)) | refine Awp.seq ?_ | refine Awp.skip ?_ | refine Awp.block ?_ | refine reg (fun s => false) ?_ | (apply drwE mixed (fun s => false); (kernel_rfl)) | refine fin ?_ | refine Awp.ret ?_ | refine Awp.exit ?_ | ((first | (apply off; (exact rfl)) | apply condF); (first | (focus (simp only [go_sem, ↓reduceIte, simprocAttr, t0, t8, hb, hu, hn] <;> rfl)) | exact rfl)))
          all_goals first | contradiction | (exfalso; omega) | skip
          refine ⟨rfl, ?_, ?_, rfl⟩
          · (first | (focus (simp only [go_sem, ↓reduceIte, simprocAttr, t0]; first | done | rfl)) | rfl)
          · (first | (focus (simp only [go_sem, ↓reduceIte, simprocAttr, t8]; first | done | rfl)) | rfl)
      · clear t0 t8 T
        rintro e T J ⟨rfl, t0, t8, hJ⟩
        rw [hJ]
        clear hJ J
        simp only [thenQ]
        have hfn : ∀ (K2 : Hp) (S2 : Bf) (a2 : AV) (d2 : List Int) (T2 : Env), T2 0 = .mptr q 0 0 → T2 8 = a2 → RCut H K2 q o a0 c tm S2 a2 d2 → S2.mu ≤ k → shr k S2 d2 = shr S1.mu S1 [] →
            ∃ j, (∃ S' ds a, T2 0 = .mptr q 0 0 ∧ T2 8 = a ∧ RCut H K2 q o a0 c tm S' a ds ∧ S'.mu ≤ j ∧ shr j S' ds = shr S1.mu S1 []) ∧ j < k + 1 :=
          fun K2 S2 a2 d2 T2 h1 h2 h3 h4 h5 => ⟨k, ⟨S2, d2, a2, h1, h2, h3, h4, h5⟩, Nat.lt_succ_self k⟩
        obtain ⟨v, hv, hnv, hvt⟩ := hC.row
        have hvl := hds_len v
        cases hnj : nextJ S' with
        | some j =>
          obtain ⟨hlen, y, hy, hly⟩ := nextJ_some hnj
          have hlj : lastL S'.L S'.L.length = some j := by unfold nextJ at hnj; rwa [if_pos hlen] at hnj
          rw [hlj] at hLo
          simp only [lsI] at hLo
          rw [shr_press ho hnj] at hsh
          have hmp := mu_press hy hly
          have hP := hC.press hv hnv hvt hy hly
          have hjl := (List.getElem?_eq_some_iff.1 hy).1
          have hvj : v[j]? = some y := by
            rw [← hvt, List.getElem?_take, if_pos hjl] at hy
            exact hy
          have hvi := hds_at hvj
          have hse := hds_set v j { y with sm := true }
          simp only [Hd.cs] at hse
          have hn : (S'.L.length : Int) ≤ 256 := by omega
          have hj0 : (j : Int) ≥ 0 := by omega
          repeat' (first | refine spD (fun _ => ?_) (fun _ => ?_) | refine spF (fun _ => ?_) (fun _ => ?_) | (apply gT; (exact rfl)) | (apply off; (exact rfl); (exact rfl)) | (apply condT; (exact rfl)) | (apply condF; (exact rfl)) | ((first | (apply stp0; (exact rfl); (exact rfl)) | (apply stpN0; (exact rfl)) | apply gT | apply condT | ((first | apply bodyQ_d0 | apply bodyQ_d1 | apply bodyQ_d2 | apply bodyQ_d3 | apply bodyQ_d4); (exact .inr rfl); (rw [Try.results31]))); (first | (focus (simp only [go_sem, ↓reduceIte, simprocAttr, t0, t8, hb, hn, hj0, hv, hvl, hvi, hjl, Nat.zero_add, hse] <;> rfl)) | exact rfl); (first | (fail_if_success (show okD _ _ _ _ _ _ _ _ _)) | (first | exact okT | exact okN | exact okE rfl)); (first | (fail_if_success (show Bel _ _)) | (focus first | exact .val _ | (simp [oneOf, Bel_iff_tup, Bel_iff_agg, Bel_iff_rsl, Bel_iff_fn, Bel_iff_rptr, Bel_val]; done)))) | (apply calTo0; (exact rfl); (iterate 2 (simp only [go_sem, ↓reduceIte, simprocAttr, t0, t8, hb, hn, hj0, hv, hvl, hvi, hjl, Nat.zero_add, hse]; rfl)); (first | exact hLo); (first | exact okT | exact okN | exact okE rfl)) | refine thenQ_n ?_ | refine thenQ_r ?_ | refine thenQ_e ?_ | refine blockQ_n ?_ | refine blockQ_r ?_ | refine blockQ_e ?_ | (apply blockQ_o; (exact rfl)) | refine Awp.seq ?_ | refine Awp.skip ?_ | refine Awp.block ?_ | refine reg (fun s => false) ?_ | (apply drwE mixed (fun s => false); (kernel_rfl)) | refine fin ?_ | refine Awp.ret ?_ | refine Awp.exit ?_ | ((first | (apply off; (exact rfl)) | apply condF); (first | (focus (simp only [go_sem, ↓reduceIte, simprocAttr, t0, t8, hb, hn, hj0, hv, hvl, hvi, hjl, Nat.zero_add, hse] <;> rfl)) | exact rfl)))
          all_goals first | contradiction | (exfalso; omega) | skip
          exact hfn _ _ a _ _ (by (first | (focus (simp only [go_sem, ↓reduceIte, simprocAttr, t0]; first | done | rfl)) | rfl)) (by (first | (focus (simp only [go_sem, ↓reduceIte, simprocAttr, t8]; first | done | rfl)) | rfl)) hP (by omega) hsh
        | none =>
          rw [shr_drop ho hnj] at hsh
          have hmd := mu_drop hx
          have hs := last_split hx
          obtain ⟨m, hm⟩ : ∃ m, S'.L.length = m + 1 := ⟨S'.L.length - 1, by rw [hs]; simp⟩
          obtain ⟨xi, hxi⟩ : ∃ xi, xi = lsI (lastL S'.L S'.L.length) := ⟨_, rfl⟩
          rw [← hxi] at hLo
          repeat' ((fail_if_success (apply stopR (id := 17))); (fail_if_success (apply stopS (id := 17))); first | refine spD (fun _ => ?_) (fun _ => ?_) | refine spF (fun _ => ?_) (fun _ => ?_) | (apply gT; (exact rfl)) | (apply off; (exact rfl); (exact rfl)) | (apply condT; (exact rfl)) | (apply condF; (exact rfl)) | ((first | (apply stp0; (exact rfl); (exact rfl)) | (apply stpN0; (exact rfl)) | apply gT | apply condT | ((first | apply bodyQ_d0 | apply bodyQ_d1 | apply bodyQ_d2 | apply bodyQ_d3 | apply bodyQ_d4); (exact .inr rfl); (rw [Try.results31]))); (first | (focus (simp only [go_sem, ↓reduceIte, simprocAttr, t0, t8] <;> rfl)) | exact rfl); (first | (fail_if_success (show okD _ _ _ _ _ _ _ _ _)) | (first | exact okT | exact okN | exact okE rfl)); (first | (fail_if_success (show Bel _ _)) | (focus first | exact .val _ | (simp [oneOf, Bel_iff_tup, Bel_iff_agg, Bel_iff_rsl, Bel_iff_fn, Bel_iff_rptr, Bel_val]; done)))) | (apply calTo0; (exact rfl); (iterate 2 (simp only [go_sem, ↓reduceIte, simprocAttr, t0, t8]; rfl)); (first | exact hLo); (first | exact okT | exact okN | exact okE rfl)) | refine thenQ_n ?_ | refine thenQ_r ?_ | refine thenQ_e ?_ | refine blockQ_n ?_ | refine blockQ_r ?_ | refine blockQ_e ?_ | (apply blockQ_o; (exact rfl)) | refine Awp.seq ?_ | refine Awp.skip ?_ | refine Awp.block ?_ | refine reg (fun s => false) ?_ | (apply drwE mixed (fun s => false); (kernel_rfl)) | refine fin ?_ | refine Awp.ret ?_ | refine Awp.exit ?_ | ((first | (apply off; (exact rfl)) | apply condF); (first | (focus (simp only [go_sem, ↓reduceIte, simprocAttr, t0, t8] <;> rfl)) | exact rfl)))
          all_goals first | contradiction | (exfalso; omega) | skip
          refine Awp.withT (fun T' => T' 0 = .mptr q 0 0 ∧ T' 8 = a ∧ T' 9 = iv xi) ⟨?_, ?_, ?_⟩ ?_
          · (first | (focus (simp only [go_sem, ↓reduceIte, simprocAttr, t0]; first | done | rfl)) | rfl)
          · (first | (focus (simp only [go_sem, ↓reduceIte, simprocAttr, t8]; first | done | rfl)) | rfl)
          · (first | (focus (simp only [go_sem, ↓reduceIte, simprocAttr]; first | done | rfl)) | rfl)
          clear t0 t8 T
          rintro T ⟨t0, t8, t9⟩
          refine Awp.mono (Q := fun e T' J => e = .normal ∧ T' 0 = .mptr q 0 0 ∧ T' 8 = a ∧ J = K') ?_ ?_
          · by_cases hxp : xi ≥ 0
            · have hn : ¬ (S'.L.length : Int) ≤ 256 := by
                intro k2
                unfold nextJ at hnj
                rw [if_pos (by omega)] at hnj
                rw [hnj] at hxi
                rw [hxi] at hxp
                exact absurd hxp (by decide)
              repeat' (first | refine spD (fun _ => ?_) (fun _ => ?_) | refine spF (fun _ => ?_) (fun _ => ?_) | (apply gT; (exact rfl)) | (apply off; (exact rfl); (exact rfl)) | (apply condT; (exact rfl)) | (apply condF; (exact rfl)) | ((first | (apply stp0; (exact rfl); (exact rfl)) | (apply stpN0; (exact rfl)) | apply gT | apply condT | ((first | apply bodyQ_d0 | apply bodyQ_d1 | apply bodyQ_d2 | apply bodyQ_d3 | apply bodyQ_d4); (exact .inr rfl); (rw [Try.results31]))); (first | (focus (simp only [go_sem, ↓reduceIte, simprocAttr, t0, t8, t9, hb, hn, hxp] <;> rfl)) | exact rfl); (first | (fail_if_success (show okD _ _ _ _ _ _ _ _ _)) | (first | exact okT | exact okN | exact okE rfl)); (first | (fail_if_success (show Bel _ _)) | (focus first | exact .val _ | (simp [oneOf, Bel_iff_tup, Bel_iff_agg, Bel_iff_rsl, Bel_iff_fn, Bel_iff_rptr, Bel_val]; done)))) | refine thenQ_n ?_ | refine thenQ_r ?_ | refine thenQ_e ?_ | refine blockQ_n ?_ | refine blockQ_r ?_ | refine blockQ_e ?_ | (apply blockQ_o; (exact rfl)) | refine Awp.seq ?_ | refine Awp.skip ?_ | refine Awp.block ?_ | refine reg (fun s => false) ?_ | (apply drwE mixed (fun s => false); (kernel_rfl)) | refine fin ?_ | refine Awp.ret ?_ | refine Awp.exit ?_ | ((first | (apply off; (exact rfl)) | apply condF); (first | (focus (simp only [go_sem, ↓reduceIte, simprocAttr, t0, t8, t9, hb, hn, hxp] <;> rfl)) | exact rfl)))
              all_goals first | contradiction | (exfalso; omega) | skip
              refine ⟨rfl, ?_, ?_, rfl⟩
              · (first | (focus (simp only [go_sem, ↓reduceIte, simprocAttr, t0]; first | done | rfl)) | rfl)
              · (first | (focus (simp only [go_sem, ↓reduceIte, simprocAttr, t8]; first | done | rfl)) | rfl)
            · repeat' (first | refine spD (fun _ => ?_) (fun _ => ?_) | refine spF (fun _ => ?_) (fun _ => ?_) | (apply gT; (exact rfl)) | (apply off; (exact rfl); (exact rfl)) | (apply condT; (exact rfl)) | (apply condF; (exact rfl)) | ((first | (apply stp0; (exact rfl); (exact rfl)) | (apply stpN0; (exact rfl)) | apply gT | apply condT | ((first | apply bodyQ_d0 | apply bodyQ_d1 | apply bodyQ_d2 | apply bodyQ_d3 | apply bodyQ_d4); (exact .inr rfl); (rw [Try.results31]))); (first | (focus (simp only [go_sem, ↓reduceIte, simprocAttr, t0, t8, t9, hb, hxp] <;> rfl)) | exact rfl); (first | (fail_if_success (show okD _ _ _ _ _ _ _ _ _)) | (first | exact okT | exact okN | exact okE rfl)); (first | (fail_if_success (show Bel _ _)) | (focus first | exact .val _ | (simp [oneOf, Bel_iff_tup, Bel_iff_agg, Bel_iff_rsl, Bel_iff_fn, Bel_iff_rptr, Bel_val]; done)))) | refine thenQ_n ?_ | refine thenQ_r ?_ | refine thenQ_e ?_ | refine blockQ_n ?_ | refine blockQ_r ?_ | refine blockQ_e ?_ | (apply blockQ_o; (exact rfl)) | refine Awp.seq ?_ | refine Awp.skip ?_ | refine Awp.block ?_ | refine reg (fun s => false) ?_ | (apply drwE mixed (fun s => false); (kernel_rfl)) | refine fin ?_ | refine Awp.ret ?_ | refine Awp.exit ?_ | ((first | (apply off; (exact rfl)) | apply condF); (first | (focus (simp only [go_sem, ↓reduceIte, simprocAttr, t0, t8, t9, hb, hxp] <;> rfl)) | exact rfl)))
              all_goals first | contradiction | (exfalso; omega) | skip
              refine ⟨rfl, ?_, ?_, rfl⟩
              · (first | (focus (simp only [go_sem, ↓reduceIte, simprocAttr, t0]; first | done | rfl)) | rfl)
              · (first | (focus (simp only [go_sem, ↓reduceIte, simprocAttr, t8]; first | done | rfl)) | rfl)
          clear t0 t8 t9 T
          rintro e T J ⟨rfl, t0, t8, hJ⟩
          rw [hJ]
          clear hJ J
          refine thenQ_n ?_
          have hP := hC.drop hx hm
          have hxm : S'.L[m]? = some x := by
            have : S'.L.dropLast.length = m := by rw [List.length_dropLast]; omega
            conv => lhs; rw [hs]
            simp [this]
          have hvm : v[m]? = some x := by
            rw [← hvt, List.getElem?_take, if_pos (by omega)] at hxm
            exact hxm
          have hvi := hds_at hvm
          have wm : IntKind.i64.wrap (((m + 1 : Nat) : Int) - 1) = (m : Int) := by rw [w64 (by omega) (by omega)]; omega
          have hm1 : m < m + 1 := Nat.lt_succ_self m
          have hdl := hC.len
          have hOR : OwnR H.length 2 1 8 K' a (ints ds) := ⟨hC.own, ints_one _, by rw [ints_len]; omega⟩
          rw [hm] at hb hnv
          have hsl : sliceA Try.prog 44 (.msl o 0 (m + 1)) none (some (iv m)) none = some (.msl o 0 m) := by
            rw [sl44]
            unfold sliceB bnd
            have e0 : (0 : Int) ≤ (m : Int) := by omega
            simp only [e0, if_true, Int.toNat_natCast]
            rw [if_pos (by omega)]
          have hbA : (ownK K' a ++ [AObj.cells (ints ds ++ [[iv x.r.id]]) 2])[q]? = some (.cells [[iv c, iv tm, .msl o 0 (m + 1)]] 73) := by
            rw [List.getElem?_append_left (by rw [ownK_len]; have := hC.ql; have := hC.len0; omega), ownK_low hC.own hC.ql]; exact hb
          repeat' (first | refine spD (fun _ => ?_) (fun _ => ?_) | refine spF (fun _ => ?_) (fun _ => ?_) | (apply gT; (exact rfl)) | (apply off; (exact rfl); (exact rfl)) | (apply condT; (exact rfl)) | (apply condF; (exact rfl)) | ((first | (apply stp0; (exact rfl); (exact rfl)) | (apply stpN0; (exact rfl)) | apply gT | apply condT | ((first | apply bodyQ_d0 | apply bodyQ_d1 | apply bodyQ_d2 | apply bodyQ_d3 | apply bodyQ_d4); (exact .inr rfl); (rw [Try.results31]))); (first | (focus (simp only [go_sem, ↓reduceIte, simprocAttr, t0, t8, hb, hv, hvl, hvi, wm, hm1, hsl, hbA, Nat.zero_add] <;> rfl)) | exact rfl); (first | (fail_if_success (show okD _ _ _ _ _ _ _ _ _)) | (first | exact okT | exact okN | exact okE rfl)); (first | (fail_if_success (show Bel _ _)) | (focus first | exact .val _ | (simp [oneOf, Bel_iff_tup, Bel_iff_agg, Bel_iff_rsl, Bel_iff_fn, Bel_iff_rptr, Bel_val]; done)))) | (apply stpApp; (exact rfl); (first | exact hOR); (iterate 2 (first | (focus (simp only [go_sem, ↓reduceIte, simprocAttr, t0, t8, hb, hv, hvl, hvi, wm, hm1, hsl, hbA, Nat.zero_add] <;> rfl)) | rfl)); (first | rfl | (simp [AV.isCell]; done)); (first | rfl | (simp; done)); (first | exact ap39 | exact ap44 | exact ap46 | exact ap61 | exact ap63 | exact ap75 | exact ap86 | exact ap101 | exact ap102); (first | exact okT | exact okN | exact okE rfl)) | refine thenQ_n ?_ | refine thenQ_r ?_ | refine thenQ_e ?_ | refine blockQ_n ?_ | refine blockQ_r ?_ | refine blockQ_e ?_ | (apply blockQ_o; (exact rfl)) | refine Awp.seq ?_ | refine Awp.skip ?_ | refine Awp.block ?_ | refine reg (fun s => false) ?_ | (apply drwE mixed (fun s => false); (kernel_rfl)) | refine fin ?_ | refine Awp.ret ?_ | refine Awp.exit ?_ | ((first | (apply off; (exact rfl)) | apply condF); (first | (focus (simp only [go_sem, ↓reduceIte, simprocAttr, t0, t8, hb, hv, hvl, hvi, wm, hm1, hsl, hbA, Nat.zero_add] <;> rfl)) | exact rfl)))
          all_goals first | contradiction | (exfalso; omega) | skip
          exact hfn _ _ _ _ _ (by (first | (focus (simp only [go_sem, ↓reduceIte, simprocAttr, t0]; first | done | rfl)) | rfl)) (by (first | (focus (simp only [go_sem, ↓reduceIte, simprocAttr]; first | done | rfl)) | rfl)) hP (by omega) hsh
  · have hsk : shr k S' ds = (S', ds) := by
      cases k with
      | zero => rfl
      | succ k => unfold shr; rw [if_neg ho]
    rw [hsk] at hsh
    unfold Bf.over at ho
    have hu : ¬ S'.used > c := by rw [← hcap]; exact fun k => ho (.inl k)
    have hn : ¬ (S'.L.length : Int) > 256 := fun k => ho (.inr (by omega))
    repeat' ((fail_if_success (apply stopR (id := 22))); (fail_if_success (apply stopS (id := 22))); first | refine spD (fun _ => ?_) (fun _ => ?_) | refine spF (fun _ => ?_) (fun _ => ?_) | (apply gT; (exact rfl)) | (apply off; (exact rfl); (exact rfl)) | (apply condT; (exact rfl)) | (apply condF; (exact rfl)) | ((first | (apply stp0; (exact rfl); (exact rfl)) | (apply stpN0; (exact rfl)) | apply gT | apply condT | ((first | apply bodyQ_d0 | apply bodyQ_d1 | apply bodyQ_d2 | apply bodyQ_d3 | apply bodyQ_d4); (exact .inr rfl); (rw [Try.results31]))); (first | (focus (simp only [go_sem, ↓reduceIte, simprocAttr, t0, t8, hb, hu, hn] <;> rfl)) | exact rfl); (first | (fail_if_success (show okD _ _ _ _ _ _ _ _ _)) | (first | exact okT | exact okN | exact okE rfl)); (first | (fail_if_success (show Bel _ _)) | (focus first | exact .val _ | (simp [oneOf, Bel_iff_tup, Bel_iff_agg, Bel_iff_rsl, Bel_iff_fn, Bel_iff_rptr, Bel_val]; done)))) | (apply calTo0; (exact rfl); (iterate 2 (simp only [go_sem, ↓reduceIte, simprocAttr, t0, t8, hb, hu, hn]; rfl)); (first | exact hU); (first | exact okT | exact okN | exact okE rfl)) | refine thenQ_n ?_ | refine thenQ_r ?_ | refine thenQ_e ?_ | refine blockQ_n ?_ | refine blockQ_r ?_ | refine blockQ_e ?_ | (apply blockQ_o; (exact rfl)) | refine Awp.seq ?_ | refine Awp.skip ?_ | refine Awp.block ?_ | refine reg (fun s => false) ?_ | (apply drwE mixed (fun s => false); (kernel_rfl)) | refine fin ?_ | refine Awp.ret ?_ | refine Awp.exit ?_ | ((first | (apply off; (exact rfl)) | apply condF); (first | (focus (simp only [go_sem, ↓reduceIte, simprocAttr, t0, t8, hb, hu, hn] <;> rfl)) | exact rfl)))
    all_goals first | contradiction | (exfalso; omega) | skip
    obtain ⟨hR2, hl2, hF2⟩ := hC.done
    refine Awp.frzOwn 8 hC.own (by (first | (focus (simp only [go_sem, ↓reduceIte, simprocAttr, t8]; first | done | rfl)) | rfl)) ?_
    rw [hB31]
    repeat' (first | refine spD (fun _ => ?_) (fun _ => ?_) | refine spF (fun _ => ?_) (fun _ => ?_) | (apply gT; (exact rfl)) | (apply off; (exact rfl); (exact rfl)) | (apply condT; (exact rfl)) | (apply condF; (exact rfl)) | ((first | (apply stp0; (exact rfl); (exact rfl)) | (apply stpN0; (exact rfl)) | apply gT | apply condT); (first | (focus (simp only [go_sem, ↓reduceIte, simprocAttr, t0] <;> rfl)) | exact rfl); (first | (fail_if_success (show okD _ _ _ _ _ _ _ _ _)) | (first | exact okT | exact okN | exact okE rfl))) | refine thenQ_n ?_ | refine thenQ_r ?_ | refine thenQ_e ?_ | refine blockQ_n ?_ | refine blockQ_r ?_ | refine blockQ_e ?_ | (apply blockQ_o; (exact rfl)) | refine Awp.seq ?_ | refine Awp.skip ?_ | refine Awp.block ?_ | refine reg (fun s => false) ?_ | (apply drwE mixed (fun s => false); (kernel_rfl)) | refine fin ?_ | refine Awp.ret ?_ | refine Awp.exit ?_ | ((first | (apply off; (exact rfl)) | apply condF); (first | (focus (simp only [go_sem, ↓reduceIte, simprocAttr, t0] <;> rfl)) | exact rfl)))
    all_goals first | contradiction | (exfalso; omega) | skip
    refine bodyQ_mk (vs := [.rsl (ints ds) false, iv 0]) (.inr rfl) (by rw [Try.results31]; simp only [go_sem, ↓reduceIte, simprocAttr]) (Vs.refl _ _ _) ?_
    have := hq (ownK K' a) _ (by rw [← hsh]; exact hR2) hl2 hF2
    rw [← hsh] at this
    exact this

end Go.Proofs.Ytlhchnnfgppneaa.Ab
namespace Go.Proofs.Ytlhchnnfgppneaa.Ab
open Go Go.RowKit Go.Proofs
set_option linter.unusedSimpArgs false
set_option linter.unusedVariables false
attribute [local irreducible] Awp wpO thenQ blockQ bodyQ ACalls stepA

/-- what the reference's Put comes to -/
def RPost (H : Hp) (q : Nat) (a : AV) (c tm : Int) (S : Bf) (r : Item) (v1 : AV) (H1 : Hp) : Prop :=
  ∃ a', v1 = .tup [.rsl (ints (putR S r).2) false, iv (putE S r)] ∧ Rq H1 q a' c tm (putR S r).1.L ∧ H.length ≤ H1.length ∧ (∀ j, j < H.length → j ≠ q → (∀ m, a ≠ .msl j 0 m) → H1[j]? = H[j]?) ∧ (a' = a ∨ ∀ j m, a' = .msl j 0 m → H.length ≤ j)

theorem rputNo {H : Hp} {q : Nat} {a : AV} {c tm : Int} {S : Bf} {r : Item} (hQ : Rq H q a c tm S.L) {e : Int} (he : putE S r = e) (hne : e ≠ 0) {T : Env} {fn : Func} (hr : resL Try.prog T H fn.results.toList = some [nilS, iv e]) {x : Exit} (hx : x = .normal ∨ x = .ret) :
    bodyQ Try.prog fn H (RPost H q a c tm S r) x T H := by
  have hS : putR S r = (S, []) := by unfold putR; rw [if_neg (by rw [he]; exact hne)]
  refine bodyQ_mk (vs := [nilS, iv e]) (a := .tup [.rsl [] false, iv e]) (H' := H) hx hr Vs.nil2 ⟨a, ?_, ?_, Nat.le_refl _, fun _ _ _ _ => rfl, .inl rfl⟩
  · rw [hS, he]; rfl
  · rw [hS]; exact hQ

set_option maxRecDepth 8000 in
set_option maxHeartbeats 8000000 in
theorem rput3 {H : Hp} {q : Nat} {a : AV} {c tm : Int} {L : List Hd} (hQ : Rq H q a c tm L) (hl : L.length ≤ 256) (r : Item) {T : Env} (t0 : T 0 = .mptr q 0 0) (t3 : T 3 = .rptr r.cs 0) :
    Awp Try.prog 147 none (hdC (tl (tl (Try.f31.body.getD .skip)))) T H (fun e T' K => K = H ∧ ((e = .ret ∧ r.id ∈ idsL L ∧ T' 4 = nilS ∧ T' 5 = iv 12) ∨ (e = .normal ∧ r.id ∉ idsL L ∧ T' 0 = .mptr q 0 0 ∧ T' 3 = .rptr r.cs 0))) := by
  have hb := hQ.hb
  unfold Try.f31
  simp only [tl, hdC, inC, Option.getD_some, Item.cs] at t3 ⊢
  cases hQ.row with
  | nil =>
    repeat' (first | refine spD (fun _ => ?_) (fun _ => ?_) | refine spF (fun _ => ?_) (fun _ => ?_) | (apply gT; (exact rfl)) | (apply off; (exact rfl); (exact rfl)) | (apply condT; (exact rfl)) | (apply condF; (exact rfl)) | ((first | (apply stp0; (exact rfl); (exact rfl)) | (apply stpN0; (exact rfl)) | apply gT | apply condT | ((first | apply bodyQ_d0 | apply bodyQ_d1 | apply bodyQ_d2 | apply bodyQ_d3 | apply bodyQ_d4); (exact .inr rfl); (rw [Try.results31]))); (first | (focus (simp only [go_sem, ↓reduceIte, simprocAttr, t0, t3, hb] <;> rfl)) | exact rfl); (first | (fail_if_success (show okD _ _ _ _ _ _ _ _ _)) | (first | exact okT | exact okN | exact okE rfl)); (first | (fail_if_success (show Bel _ _)) | (focus first | exact .val _ | (simp [oneOf, Bel_iff_tup, Bel_iff_agg, Bel_iff_rsl, Bel_iff_fn, Bel_iff_rptr, Bel_val]; done)))) | refine thenQ_n ?_ | refine thenQ_r ?_ | refine thenQ_e ?_ | refine blockQ_n ?_ | refine blockQ_r ?_ | refine blockQ_e ?_ | (apply blockQ_o; (exact rfl)) | refine Awp.seq ?_ | refine Awp.skip ?_ | refine Awp.block ?_ | refine reg (fun s => false) ?_ | (apply drwE mixed (fun s => false); (kernel_rfl)) | refine fin ?_ | refine Awp.ret ?_ | refine Awp.exit ?_ | ((first | (apply off; (exact rfl)) | apply condF); (first | (focus (simp only [go_sem, ↓reduceIte, simprocAttr, t0, t3, hb] <;> rfl)) | exact rfl)))
    all_goals first | contradiction | (exfalso; omega) | skip
    refine Awp.loop (ι := Nat) (fun _ T' K => T' 6 = iv 0 ∧ T' 0 = .mptr q 0 0 ∧ T' 3 = .rptr [iv r.id, iv r.cls, iv r.made, iv r.size, iv r.pk] 0 ∧ K = H) (fun m => m) 0 ?_ ?_
    · refine ⟨?_, ?_, ?_, rfl⟩
      · (first | (focus (simp only [go_sem, ↓reduceIte, simprocAttr]; first | done | rfl)) | rfl)
      · (first | (focus (simp only [go_sem, ↓reduceIte, simprocAttr, t0]; first | done | rfl)) | rfl)
      · (first | (focus (simp only [go_sem, ↓reduceIte, simprocAttr, t3]; first | done | rfl)) | rfl)
    clear t0 t3 T
    rintro m T K ⟨t6, t0, t3, hK⟩
    rw [hK]
    repeat' (first | refine spD (fun _ => ?_) (fun _ => ?_) | refine spF (fun _ => ?_) (fun _ => ?_) | (apply gT; (exact rfl)) | (apply off; (exact rfl); (exact rfl)) | (apply condT; (exact rfl)) | (apply condF; (exact rfl)) | ((first | (apply stp0; (exact rfl); (exact rfl)) | (apply stpN0; (exact rfl)) | apply gT | apply condT | ((first | apply bodyQ_d0 | apply bodyQ_d1 | apply bodyQ_d2 | apply bodyQ_d3 | apply bodyQ_d4); (exact .inr rfl); (rw [Try.results31]))); (first | (focus (simp only [go_sem, ↓reduceIte, simprocAttr, t0, t3, t6, hb] <;> rfl)) | exact rfl); (first | (fail_if_success (show okD _ _ _ _ _ _ _ _ _)) | (first | exact okT | exact okN | exact okE rfl)); (first | (fail_if_success (show Bel _ _)) | (focus first | exact .val _ | (simp [oneOf, Bel_iff_tup, Bel_iff_agg, Bel_iff_rsl, Bel_iff_fn, Bel_iff_rptr, Bel_val]; done)))) | refine thenQ_n ?_ | refine thenQ_r ?_ | refine thenQ_e ?_ | refine blockQ_n ?_ | refine blockQ_r ?_ | refine blockQ_e ?_ | (apply blockQ_o; (exact rfl)) | refine Awp.seq ?_ | refine Awp.skip ?_ | refine Awp.block ?_ | refine reg (fun s => false) ?_ | (apply drwE mixed (fun s => false); (kernel_rfl)) | refine fin ?_ | refine Awp.ret ?_ | refine Awp.exit ?_ | ((first | (apply off; (exact rfl)) | apply condF); (first | (focus (simp only [go_sem, ↓reduceIte, simprocAttr, t0, t3, t6, hb] <;> rfl)) | exact rfl)))
    all_goals first | contradiction | (exfalso; omega) | skip
    refine ⟨rfl, .inr ⟨rfl, by simp [idsL], ?_, ?_⟩⟩
    · (first | (focus (simp only [go_sem, ↓reduceIte, simprocAttr, t0]; first | done | rfl)) | rfl)
    · (first | (focus (simp only [go_sem, ↓reduceIte, simprocAttr, t3]; first | done | rfl)) | rfl)
  | row hbv hn =>
    rename_i o n v
    have hln : (v.take n).length = n := by rw [List.length_take, Nat.min_eq_left hn]
    have hlm : n ≤ maxLen := by rw [hln] at hl; simp only [maxLen]; omega
    have hvl := hds_len v
    repeat' (first | refine spD (fun _ => ?_) (fun _ => ?_) | refine spF (fun _ => ?_) (fun _ => ?_) | (apply gT; (exact rfl)) | (apply off; (exact rfl); (exact rfl)) | (apply condT; (exact rfl)) | (apply condF; (exact rfl)) | ((first | (apply stp0; (exact rfl); (exact rfl)) | (apply stpN0; (exact rfl)) | apply gT | apply condT | ((first | apply bodyQ_d0 | apply bodyQ_d1 | apply bodyQ_d2 | apply bodyQ_d3 | apply bodyQ_d4); (exact .inr rfl); (rw [Try.results31]))); (first | (focus (simp only [go_sem, ↓reduceIte, simprocAttr, t0, t3, hb] <;> rfl)) | exact rfl); (first | (fail_if_success (show okD _ _ _ _ _ _ _ _ _)) | (first | exact okT | exact okN | exact okE rfl)); (first | (fail_if_success (show Bel _ _)) | (focus first | exact .val _ | (simp [oneOf, Bel_iff_tup, Bel_iff_agg, Bel_iff_rsl, Bel_iff_fn, Bel_iff_rptr, Bel_val]; done)))) | refine thenQ_n ?_ | refine thenQ_r ?_ | refine thenQ_e ?_ | refine blockQ_n ?_ | refine blockQ_r ?_ | refine blockQ_e ?_ | (apply blockQ_o; (exact rfl)) | refine Awp.seq ?_ | refine Awp.skip ?_ | refine Awp.block ?_ | refine reg (fun s => false) ?_ | (apply drwE mixed (fun s => false); (kernel_rfl)) | refine fin ?_ | refine Awp.ret ?_ | refine Awp.exit ?_ | ((first | (apply off; (exact rfl)) | apply condF); (first | (focus (simp only [go_sem, ↓reduceIte, simprocAttr, t0, t3, hb] <;> rfl)) | exact rfl)))
    all_goals first | contradiction | (exfalso; omega) | skip
    refine Awp.loop (ι := Nat) (fun i T' K => i ≤ n ∧ T' 6 = iv i ∧ T' 0 = .mptr q 0 0 ∧ T' 3 = .rptr [iv r.id, iv r.cls, iv r.made, iv r.size, iv r.pk] 0 ∧ K = H ∧ r.id ∉ idsL ((v.take n).take i)) (fun i => n - i) 0 ?_ ?_
    · refine ⟨Nat.zero_le _, ?_, ?_, ?_, rfl, by simp [idsL]⟩
      · (first | (focus (simp only [go_sem, ↓reduceIte, simprocAttr]; first | done | rfl)) | rfl)
      · (first | (focus (simp only [go_sem, ↓reduceIte, simprocAttr, t0]; first | done | rfl)) | rfl)
      · (first | (focus (simp only [go_sem, ↓reduceIte, simprocAttr, t3]; first | done | rfl)) | rfl)
    clear t0 t3 T
    rintro i T K ⟨hi, t6, t0, t3, hK, hno⟩
    rw [hK]
    by_cases hlt : i < n
    · obtain ⟨h, hh⟩ := nth (l := v.take n) (i := i) (by omega)
      have hvi : (hds v)[i]? = some [iv h.r.id, iv h.r.cls, iv h.r.made, iv h.r.size, iv h.r.pk, bv h.sm, iv h.sent] := by
        have h2 := hh
        rw [List.getElem?_take, if_pos hlt] at h2
        exact hds_at h2
      have hsu := wsucc hlt hlm
      have hsc : idsL ((v.take n).take (i + 1)) = idsL ((v.take n).take i) ++ [h.r.id] := by
        rw [List.take_add_one, hh]; simp [idsL]
      by_cases he : h.r.id = r.id
      · repeat' (first | refine spD (fun _ => ?_) (fun _ => ?_) | refine spF (fun _ => ?_) (fun _ => ?_) | (apply gT; (exact rfl)) | (apply off; (exact rfl); (exact rfl)) | (apply condT; (exact rfl)) | (apply condF; (exact rfl)) | ((first | (apply stp0; (exact rfl); (exact rfl)) | (apply stpN0; (exact rfl)) | apply gT | apply condT | ((first | apply bodyQ_d0 | apply bodyQ_d1 | apply bodyQ_d2 | apply bodyQ_d3 | apply bodyQ_d4); (exact .inr rfl); (rw [Try.results31]))); (first | (focus (simp only [go_sem, ↓reduceIte, simprocAttr, Int.ofNat_lt.2 hlt, t0, t3, t6, hb, hbv, hvl, hvi, hlt, Nat.zero_add, he] <;> rfl)) | exact rfl); (first | (fail_if_success (show okD _ _ _ _ _ _ _ _ _)) | (first | exact okT | exact okN | exact okE rfl)); (first | (fail_if_success (show Bel _ _)) | (focus first | exact .val _ | (simp [oneOf, Bel_iff_tup, Bel_iff_agg, Bel_iff_rsl, Bel_iff_fn, Bel_iff_rptr, Bel_val]; done)))) | refine thenQ_n ?_ | refine thenQ_r ?_ | refine thenQ_e ?_ | refine blockQ_n ?_ | refine blockQ_r ?_ | refine blockQ_e ?_ | (apply blockQ_o; (exact rfl)) | refine Awp.seq ?_ | refine Awp.skip ?_ | refine Awp.block ?_ | refine reg (fun s => false) ?_ | (apply drwE mixed (fun s => false); (kernel_rfl)) | refine fin ?_ | refine Awp.ret ?_ | refine Awp.exit ?_ | ((first | (apply off; (exact rfl)) | apply condF); (first | (focus (simp only [go_sem, ↓reduceIte, simprocAttr, Int.ofNat_lt.2 hlt, t0, t3, t6, hb, hbv, hvl, hvi, hlt, Nat.zero_add, he] <;> rfl)) | exact rfl)))
        all_goals first | contradiction | (exfalso; omega) | skip
        refine ⟨rfl, .inl ⟨rfl, ?_, ?_, ?_⟩⟩
        · rw [← he]; unfold idsL; exact List.mem_map.2 ⟨h, List.mem_of_getElem? hh, rfl⟩
        · (first | (focus (simp only [go_sem, ↓reduceIte, simprocAttr]; first | done | rfl)) | rfl)
        · (first | (focus (simp only [go_sem, ↓reduceIte, simprocAttr]; first | done | rfl)) | rfl)
      · repeat' (first | refine spD (fun _ => ?_) (fun _ => ?_) | refine spF (fun _ => ?_) (fun _ => ?_) | (apply gT; (exact rfl)) | (apply off; (exact rfl); (exact rfl)) | (apply condT; (exact rfl)) | (apply condF; (exact rfl)) | ((first | (apply stp0; (exact rfl); (exact rfl)) | (apply stpN0; (exact rfl)) | apply gT | apply condT | ((first | apply bodyQ_d0 | apply bodyQ_d1 | apply bodyQ_d2 | apply bodyQ_d3 | apply bodyQ_d4); (exact .inr rfl); (rw [Try.results31]))); (first | (focus (simp only [go_sem, ↓reduceIte, simprocAttr, Int.ofNat_lt.2 hlt, t0, t3, t6, hb, hbv, hvl, hvi, hlt, Nat.zero_add, he, hsu] <;> rfl)) | exact rfl); (first | (fail_if_success (show okD _ _ _ _ _ _ _ _ _)) | (first | exact okT | exact okN | exact okE rfl)); (first | (fail_if_success (show Bel _ _)) | (focus first | exact .val _ | (simp [oneOf, Bel_iff_tup, Bel_iff_agg, Bel_iff_rsl, Bel_iff_fn, Bel_iff_rptr, Bel_val]; done)))) | refine thenQ_n ?_ | refine thenQ_r ?_ | refine thenQ_e ?_ | refine blockQ_n ?_ | refine blockQ_r ?_ | refine blockQ_e ?_ | (apply blockQ_o; (exact rfl)) | refine Awp.seq ?_ | refine Awp.skip ?_ | refine Awp.block ?_ | refine reg (fun s => false) ?_ | (apply drwE mixed (fun s => false); (kernel_rfl)) | refine fin ?_ | refine Awp.ret ?_ | refine Awp.exit ?_ | ((first | (apply off; (exact rfl)) | apply condF); (first | (focus (simp only [go_sem, ↓reduceIte, simprocAttr, Int.ofNat_lt.2 hlt, t0, t3, t6, hb, hbv, hvl, hvi, hlt, Nat.zero_add, he, hsu] <;> rfl)) | exact rfl)))
        all_goals first | contradiction | (exfalso; omega) | skip
        refine ⟨i + 1, ⟨hlt, ?_, ?_, ?_, rfl, ?_⟩, Nat.sub_lt_sub_left hlt (Nat.lt_succ_self i)⟩
        · (first | (focus (simp only [go_sem, ↓reduceIte, simprocAttr, hsu]; first | done | rfl)) | rfl)
        · (first | (focus (simp only [go_sem, ↓reduceIte, simprocAttr, t0]; first | done | rfl)) | rfl)
        · (first | (focus (simp only [go_sem, ↓reduceIte, simprocAttr, t3]; first | done | rfl)) | rfl)
        · rw [hsc, List.mem_append]
          rintro (k | k)
          · exact hno k
          · simp at k; exact he k.symm
    · have hie : i = n := Nat.le_antisymm hi (Nat.not_lt.1 hlt)
      subst hie
      rw [List.take_take, Nat.min_self] at hno
      repeat' (first | refine spD (fun _ => ?_) (fun _ => ?_) | refine spF (fun _ => ?_) (fun _ => ?_) | (apply gT; (exact rfl)) | (apply off; (exact rfl); (exact rfl)) | (apply condT; (exact rfl)) | (apply condF; (exact rfl)) | ((first | (apply stp0; (exact rfl); (exact rfl)) | (apply stpN0; (exact rfl)) | apply gT | apply condT | ((first | apply bodyQ_d0 | apply bodyQ_d1 | apply bodyQ_d2 | apply bodyQ_d3 | apply bodyQ_d4); (exact .inr rfl); (rw [Try.results31]))); (first | (focus (simp only [go_sem, ↓reduceIte, simprocAttr, Int.lt_irrefl, t0, t3, t6, hb] <;> rfl)) | exact rfl); (first | (fail_if_success (show okD _ _ _ _ _ _ _ _ _)) | (first | exact okT | exact okN | exact okE rfl)); (first | (fail_if_success (show Bel _ _)) | (focus first | exact .val _ | (simp [oneOf, Bel_iff_tup, Bel_iff_agg, Bel_iff_rsl, Bel_iff_fn, Bel_iff_rptr, Bel_val]; done)))) | refine thenQ_n ?_ | refine thenQ_r ?_ | refine thenQ_e ?_ | refine blockQ_n ?_ | refine blockQ_r ?_ | refine blockQ_e ?_ | (apply blockQ_o; (exact rfl)) | refine Awp.seq ?_ | refine Awp.skip ?_ | refine Awp.block ?_ | refine reg (fun s => false) ?_ | (apply drwE mixed (fun s => false); (kernel_rfl)) | refine fin ?_ | refine Awp.ret ?_ | refine Awp.exit ?_ | ((first | (apply off; (exact rfl)) | apply condF); (first | (focus (simp only [go_sem, ↓reduceIte, simprocAttr, Int.lt_irrefl, t0, t3, t6, hb] <;> rfl)) | exact rfl)))
      all_goals first | contradiction | (exfalso; omega) | skip
      refine ⟨rfl, .inr ⟨rfl, hno, ?_, ?_⟩⟩
      · (first | (focus (simp only [go_sem, ↓reduceIte, simprocAttr, t0]; first | done | rfl)) | rfl)
      · (first | (focus (simp only [go_sem, ↓reduceIte, simprocAttr, t3]; first | done | rfl)) | rfl)

set_option maxRecDepth 8000 in
set_option maxHeartbeats 8000000 in
theorem rput11 {H : Hp} {q : Nat} {a : AV} {c tm : Int} {L : List Hd} (hQ : Rq H q a c tm L) (hl : L.length ≤ 256) (hs : L.Pairwise fun x y => lessR y.r x.r) (r : Item) {T : Env} (t0 : T 0 = .mptr q 0 0) (t3 : T 3 = .rptr r.cs 0) (t7 : T 7 = iv 0) :
    Awp Try.prog 147 none (hdC (tl (tl (tl (tl (tl (Try.f31.body.getD .skip))))))) T H (fun e T' K => K = H ∧ e = .normal ∧ T' 0 = .mptr q 0 0 ∧ T' 3 = .rptr r.cs 0 ∧ T' 7 = iv (placeN L r : Nat)) := by
  have hb := hQ.hb
  have hpN := placeN_le r L
  have hpS := placeN_spec (r := r) hs
  obtain ⟨pl, hpl⟩ : ∃ pl, pl = placeN L r := ⟨_, rfl⟩
  rw [← hpl] at hpN hpS ⊢
  unfold Try.f31
  simp only [tl, hdC, inC, Option.getD_some, Item.cs] at t3 ⊢
  cases hQ.row with
  | nil =>
    have h0 : pl = 0 := by simpa using hpN
    subst h0
    refine Awp.block ?_
    refine Awp.loop (ι := Nat) (fun _ T' K => T' 7 = iv 0 ∧ T' 0 = .mptr q 0 0 ∧ T' 3 = .rptr [iv r.id, iv r.cls, iv r.made, iv r.size, iv r.pk] 0 ∧ K = H) (fun m => m) 0 ⟨t7, t0, t3, rfl⟩ ?_
    clear t0 t3 t7 T
    rintro m T K ⟨t7, t0, t3, hK⟩
    rw [hK]
    repeat' (first | refine spD (fun _ => ?_) (fun _ => ?_) | refine spF (fun _ => ?_) (fun _ => ?_) | (apply gT; (exact rfl)) | (apply off; (exact rfl); (exact rfl)) | (apply condT; (exact rfl)) | (apply condF; (exact rfl)) | ((first | (apply stp0; (exact rfl); (exact rfl)) | (apply stpN0; (exact rfl)) | apply gT | apply condT | ((first | apply bodyQ_d0 | apply bodyQ_d1 | apply bodyQ_d2 | apply bodyQ_d3 | apply bodyQ_d4); (exact .inr rfl); (rw [Try.results31]))); (first | (focus (simp only [go_sem, ↓reduceIte, simprocAttr, t0, t3, t7, hb] <;> rfl)) | exact rfl); (first | (fail_if_success (show okD _ _ _ _ _ _ _ _ _)) | (first | exact okT | exact okN | exact okE rfl)); (first | (fail_if_success (show Bel _ _)) | (focus first | exact .val _ | (simp [oneOf, Bel_iff_tup, Bel_iff_agg, Bel_iff_rsl, Bel_iff_fn, Bel_iff_rptr, Bel_val]; done)))) | refine thenQ_n ?_ | refine thenQ_r ?_ | refine thenQ_e ?_ | refine blockQ_n ?_ | refine blockQ_r ?_ | refine blockQ_e ?_ | (apply blockQ_o; (exact rfl)) | refine Awp.seq ?_ | refine Awp.skip ?_ | refine Awp.block ?_ | refine reg (fun s => false) ?_ | (apply drwE mixed (fun s => false); (kernel_rfl)) | refine fin ?_ | refine Awp.ret ?_ | refine Awp.exit ?_ | ((first | (apply off; (exact rfl)) | apply condF); (first | (focus (simp only [go_sem, ↓reduceIte, simprocAttr, t0, t3, t7, hb] <;> rfl)) | exact rfl)))
    all_goals first | contradiction | (exfalso; omega) | skip
    refine ⟨rfl, rfl, ?_, ?_, ?_⟩
    · (first | (focus (simp only [go_sem, ↓reduceIte, simprocAttr, t0]; first | done | rfl)) | rfl)
    · (first | (focus (simp only [go_sem, ↓reduceIte, simprocAttr, t3]; first | done | rfl)) | rfl)
    · (first | (focus (simp only [go_sem, ↓reduceIte, simprocAttr, t7]; first | done | rfl)) | rfl)
  | row hbv hn =>
    rename_i o n v
    have hln : (v.take n).length = n := by rw [List.length_take, Nat.min_eq_left hn]
    have hlm : n ≤ maxLen := by rw [hln] at hl; simp only [maxLen]; omega
    have hvl := hds_len v
    rw [hln] at hpN
    refine Awp.block ?_
    refine Awp.loop (ι := Nat) (fun i T' K => i ≤ pl ∧ T' 7 = iv i ∧ T' 0 = .mptr q 0 0 ∧ T' 3 = .rptr [iv r.id, iv r.cls, iv r.made, iv r.size, iv r.pk] 0 ∧ K = H) (fun i => pl - i) 0 ⟨Nat.zero_le _, t7, t0, t3, rfl⟩ ?_
    clear t0 t3 t7 T
    rintro i T K ⟨hi, t7, t0, t3, hK⟩
    rw [hK]
    by_cases hin : i < n
    · obtain ⟨h, hh⟩ := nth (l := v.take n) (i := i) (by omega)
      have hvi : (hds v)[i]? = some [iv h.r.id, iv h.r.cls, iv h.r.made, iv h.r.size, iv h.r.pk, bv h.sm, iv h.sent] := by
        have h2 := hh
        rw [List.getElem?_take, if_pos hin] at h2
        exact hds_at h2
      have hLs := rLesser_ok H r h.r
      have hiff := hpS i h hh
      rw [cmpR_neg] at hiff
      simp only [Item.cs] at hLs
      have hsu := wsucc hin hlm
      by_cases hlt : i < pl
      · rw [decide_eq_true (hiff.2 hlt)] at hLs
        repeat' (first | refine spD (fun _ => ?_) (fun _ => ?_) | refine spF (fun _ => ?_) (fun _ => ?_) | (apply gT; (exact rfl)) | (apply off; (exact rfl); (exact rfl)) | (apply condT; (exact rfl)) | (apply condF; (exact rfl)) | ((first | (apply stp0; (exact rfl); (exact rfl)) | (apply stpN0; (exact rfl)) | apply gT | apply condT | ((first | apply bodyQ_d0 | apply bodyQ_d1 | apply bodyQ_d2 | apply bodyQ_d3 | apply bodyQ_d4); (exact .inr rfl); (rw [Try.results31]))); (first | (focus (simp only [go_sem, ↓reduceIte, simprocAttr, Int.ofNat_lt.2 hin, t0, t3, t7, hb, hbv, hvl, hvi, hin, Nat.zero_add, hsu] <;> rfl)) | exact rfl); (first | (fail_if_success (show okD _ _ _ _ _ _ _ _ _)) | (first | exact okT | exact okN | exact okE rfl)); (first | (fail_if_success (show Bel _ _)) | (focus first | exact .val _ | (simp [oneOf, Bel_iff_tup, Bel_iff_agg, Bel_iff_rsl, Bel_iff_fn, Bel_iff_rptr, Bel_val]; done)))) | (apply calTo0; (exact rfl); (iterate 2 (simp only [go_sem, ↓reduceIte, simprocAttr, Int.ofNat_lt.2 hin, t0, t3, t7, hb, hbv, hvl, hvi, hin, Nat.zero_add, hsu]; rfl)); (first | exact hLs); (first | exact okT | exact okN | exact okE rfl)) | refine thenQ_n ?_ | refine thenQ_r ?_ | refine thenQ_e ?_ | refine blockQ_n ?_ | refine blockQ_r ?_ | refine blockQ_e ?_ | (apply blockQ_o; (exact rfl)) | refine Awp.seq ?_ | refine Awp.skip ?_ | refine Awp.block ?_ | refine reg (fun s => false) ?_ | (apply drwE mixed (fun s => false); (kernel_rfl)) | refine fin ?_ | refine Awp.ret ?_ | refine Awp.exit ?_ | ((first | (apply off; (exact rfl)) | apply condF); (first | (focus (simp only [go_sem, ↓reduceIte, simprocAttr, Int.ofNat_lt.2 hin, t0, t3, t7, hb, hbv, hvl, hvi, hin, Nat.zero_add, hsu] <;> rfl)) | exact rfl)))
        all_goals first | contradiction | (exfalso; omega) | skip
        refine ⟨i + 1, ⟨hlt, ?_, ?_, ?_, rfl⟩, Nat.sub_lt_sub_left hlt (Nat.lt_succ_self i)⟩
        · (first | (focus (simp only [go_sem, ↓reduceIte, simprocAttr, hsu]; first | done | rfl)) | rfl)
        · (first | (focus (simp only [go_sem, ↓reduceIte, simprocAttr, t0]; first | done | rfl)) | rfl)
        · (first | (focus (simp only [go_sem, ↓reduceIte, simprocAttr, t3]; first | done | rfl)) | rfl)
      · have hie : i = pl := Nat.le_antisymm hi (Nat.not_lt.1 hlt)
        subst hie
        rw [decide_eq_false (fun k => hlt (hiff.1 k))] at hLs
        repeat' (first | refine spD (fun _ => ?_) (fun _ => ?_) | refine spF (fun _ => ?_) (fun _ => ?_) | (apply gT; (exact rfl)) | (apply off; (exact rfl); (exact rfl)) | (apply condT; (exact rfl)) | (apply condF; (exact rfl)) | ((first | (apply stp0; (exact rfl); (exact rfl)) | (apply stpN0; (exact rfl)) | apply gT | apply condT | ((first | apply bodyQ_d0 | apply bodyQ_d1 | apply bodyQ_d2 | apply bodyQ_d3 | apply bodyQ_d4); (exact .inr rfl); (rw [Try.results31]))); (first | (focus (simp only [go_sem, ↓reduceIte, simprocAttr, Int.ofNat_lt.2 hin, t0, t3, t7, hb, hbv, hvl, hvi, hin, Nat.zero_add] <;> rfl)) | exact rfl); (first | (fail_if_success (show okD _ _ _ _ _ _ _ _ _)) | (first | exact okT | exact okN | exact okE rfl)); (first | (fail_if_success (show Bel _ _)) | (focus first | exact .val _ | (simp [oneOf, Bel_iff_tup, Bel_iff_agg, Bel_iff_rsl, Bel_iff_fn, Bel_iff_rptr, Bel_val]; done)))) | (apply calTo0; (exact rfl); (iterate 2 (simp only [go_sem, ↓reduceIte, simprocAttr, Int.ofNat_lt.2 hin, t0, t3, t7, hb, hbv, hvl, hvi, hin, Nat.zero_add]; rfl)); (first | exact hLs); (first | exact okT | exact okN | exact okE rfl)) | refine thenQ_n ?_ | refine thenQ_r ?_ | refine thenQ_e ?_ | refine blockQ_n ?_ | refine blockQ_r ?_ | refine blockQ_e ?_ | (apply blockQ_o; (exact rfl)) | refine Awp.seq ?_ | refine Awp.skip ?_ | refine Awp.block ?_ | refine reg (fun s => false) ?_ | (apply drwE mixed (fun s => false); (kernel_rfl)) | refine fin ?_ | refine Awp.ret ?_ | refine Awp.exit ?_ | ((first | (apply off; (exact rfl)) | apply condF); (first | (focus (simp only [go_sem, ↓reduceIte, simprocAttr, Int.ofNat_lt.2 hin, t0, t3, t7, hb, hbv, hvl, hvi, hin, Nat.zero_add] <;> rfl)) | exact rfl)))
        all_goals first | contradiction | (exfalso; omega) | skip
        refine ⟨rfl, rfl, ?_, ?_, ?_⟩
        · (first | (focus (simp only [go_sem, ↓reduceIte, simprocAttr, t0]; first | done | rfl)) | rfl)
        · (first | (focus (simp only [go_sem, ↓reduceIte, simprocAttr, t3]; first | done | rfl)) | rfl)
        · (first | (focus (simp only [go_sem, ↓reduceIte, simprocAttr, t7]; first | done | rfl)) | rfl)
    · have hie : i = n := by omega
      have hpn : pl = n := by omega
      subst hie hpn
      repeat' (first | refine spD (fun _ => ?_) (fun _ => ?_) | refine spF (fun _ => ?_) (fun _ => ?_) | (apply gT; (exact rfl)) | (apply off; (exact rfl); (exact rfl)) | (apply condT; (exact rfl)) | (apply condF; (exact rfl)) | ((first | (apply stp0; (exact rfl); (exact rfl)) | (apply stpN0; (exact rfl)) | apply gT | apply condT | ((first | apply bodyQ_d0 | apply bodyQ_d1 | apply bodyQ_d2 | apply bodyQ_d3 | apply bodyQ_d4); (exact .inr rfl); (rw [Try.results31]))); (first | (focus (simp only [go_sem, ↓reduceIte, simprocAttr, Int.lt_irrefl, t0, t3, t7, hb] <;> rfl)) | exact rfl); (first | (fail_if_success (show okD _ _ _ _ _ _ _ _ _)) | (first | exact okT | exact okN | exact okE rfl)); (first | (fail_if_success (show Bel _ _)) | (focus first | exact .val _ | (simp [oneOf, Bel_iff_tup, Bel_iff_agg, Bel_iff_rsl, Bel_iff_fn, Bel_iff_rptr, Bel_val]; done)))) | refine thenQ_n ?_ | refine thenQ_r ?_ | refine thenQ_e ?_ | refine blockQ_n ?_ | refine blockQ_r ?_ | refine blockQ_e ?_ | (apply blockQ_o; (exact rfl)) | refine Awp.seq ?_ | refine Awp.skip ?_ | refine Awp.block ?_ | refine reg (fun s => false) ?_ | (apply drwE mixed (fun s => false); (kernel_rfl)) | refine fin ?_ | refine Awp.ret ?_ | refine Awp.exit ?_ | ((first | (apply off; (exact rfl)) | apply condF); (first | (focus (simp only [go_sem, ↓reduceIte, simprocAttr, Int.lt_irrefl, t0, t3, t7, hb] <;> rfl)) | exact rfl)))
      all_goals first | contradiction | (exfalso; omega) | skip
      refine ⟨rfl, rfl, ?_, ?_, ?_⟩
      · (first | (focus (simp only [go_sem, ↓reduceIte, simprocAttr, t0]; first | done | rfl)) | rfl)
      · (first | (focus (simp only [go_sem, ↓reduceIte, simprocAttr, t3]; first | done | rfl)) | rfl)
      · (first | (focus (simp only [go_sem, ↓reduceIte, simprocAttr, t7]; first | done | rfl)) | rfl)

end Go.Proofs.Ytlhchnnfgppneaa.Ab
namespace Go.Proofs.Ytlhchnnfgppneaa.Ab
open Go Go.RowKit Go.Proofs
set_option linter.unusedSimpArgs false
set_option linter.unusedVariables false
attribute [local irreducible] Awp wpO thenQ blockQ bodyQ ACalls stepA

set_option maxRecDepth 8000 in
set_option maxHeartbeats 8000000 in
theorem rput13a {H K : Hp} {q : Nat} {a : AV} {c tm : Int} {S : Bf} {r : Item} {T : Env} (hg : Good S) (hcap : S.cap = c) (hl : S.L.length ≤ 256) (hr : r.ok) (hno : r.id ∉ idsL S.L) (hE : putE S r = 0) (hq : q < H.length) (hKl : K.length = H.length)
    (hold : ∀ j, j < H.length → j ≠ q → (∀ m, a ≠ .msl j 0 m) → K[j]? = H[j]?) (hb : K[q]? = some (.cells [[iv c, iv tm, .rsl (hds S.L) false]] 73)) (t0 : T 0 = .mptr q 0 0) (t3 : T 3 = .rptr r.cs 0) (t7 : T 7 = iv (placeN S.L r : Nat)) :
    Awp Try.prog 147 none (tl (tl (tl (tl (tl (tl (Try.f31.body.getD .skip))))))) T K (bodyQ Try.prog Try.f31 H (RPost H q a c tm S r)) := by
  have hP : putR S r = shr (S.ins r).mu (S.ins r) [] := by unfold putR; rw [if_pos hE]
  have hil : (S.ins r).L.length = S.L.length + 1 := insA_len
  refine Awp.seq ?_
  refine rput13 hb hl _ (placeN_le r S.L) t0 t3 t7 fun T' K' o h1 h2 h3 h4 h5 h6 => ?_
  refine thenQ_n ?_
  have hC : RCut H K' q o a c tm (S.ins r) nilS [] := by
    refine ⟨by rw [hil]; exact h5, ⟨(S.ins r).L, h6, Nat.le_refl _, List.take_length⟩, hg.insG hl hr hno, hcap, by omega, .nil, by omega, fun j hj e1 e2 => ?_, by (intro m e; cases e), hq, by rw [hil]; simp; omega⟩
    rw [h3 j (by omega) e1]; exact hold j hj e1 e2
  refine rput14 (Post := RPost H q a c tm S r) hC h1 fun H1 n g1 g2 g3 => ⟨.msl o 0 n, ?_, ?_, g2, g3, .inr fun j m e => ?_⟩
  · rw [hP, hE]
  · rw [hP]; exact g1
  · cases e; omega

set_option maxRecDepth 8000 in
set_option maxHeartbeats 8000000 in
theorem rPut_ok {H : Hp} {q : Nat} {a : AV} {c tm : Int} {S : Bf} (hQ : Rq H q a c tm S.L) (hg : Good S) (hcap : S.cap = c) (hl : S.L.length ≤ 256) (r : Item) :
    ACalls Try.prog 31 [.mptr q 0 0, .agg r.cs] H (RPost H q a c tm S r) := by
  have hb := hQ.hb
  have hql := (List.getElem?_eq_some_iff.1 hb).1
  have hck := rcheck_ok H r
  rcases putE_ok S r with ⟨h1, hcd, hE⟩ | ⟨h1, hcd, h2⟩
  · rw [hcd] at hck
    have n2 : ¬ (2 : Int) = 0 := by omega
    simp only [Item.cs] at hck ⊢
    refine ACalls.of_body Try.func31 rfl (by kernel_rfl) (by rw [Try.ntmps31]; simp) ?_; rw [Try.ntmps31]
    repeat' (first | refine spD (fun _ => ?_) (fun _ => ?_) | refine spF (fun _ => ?_) (fun _ => ?_) | (apply gT; (exact rfl)) | (apply off; (exact rfl); (exact rfl)) | (apply condT; (exact rfl)) | (apply condF; (exact rfl)) | ((first | (apply stp0; (exact rfl); (exact rfl)) | (apply stpN0; (exact rfl)) | apply gT | apply condT); (first | (focus (simp only [go_sem, ↓reduceIte, simprocAttr, n2] <;> rfl)) | exact rfl); (first | (fail_if_success (show okD _ _ _ _ _ _ _ _ _)) | (first | exact okT | exact okN | exact okE rfl))) | (apply calTo0; (exact rfl); (iterate 2 (simp only [go_sem, ↓reduceIte, simprocAttr, n2]; rfl)); (first | exact hck); (first | exact okT | exact okN | exact okE rfl)) | refine thenQ_n ?_ | refine thenQ_r ?_ | refine thenQ_e ?_ | refine blockQ_n ?_ | refine blockQ_r ?_ | refine blockQ_e ?_ | (apply blockQ_o; (exact rfl)) | refine Awp.seq ?_ | refine Awp.skip ?_ | refine Awp.block ?_ | refine reg (fun s => false) ?_ | (apply drwE mixed (fun s => false); (kernel_rfl)) | refine fin ?_ | refine Awp.ret ?_ | refine Awp.exit ?_ | ((first | (apply off; (exact rfl)) | apply condF); (first | (focus (simp only [go_sem, ↓reduceIte, simprocAttr, n2] <;> rfl)) | exact rfl)))
    all_goals first | contradiction | (exfalso; omega) | skip
    exact rputNo hQ hE (by omega) (by rw [Try.results31]; simp only [go_sem, ↓reduceIte, simprocAttr]) (.inr rfl)
  · rw [hcd] at hck
    simp only [Item.cs] at hck ⊢
    refine ACalls.of_body Try.func31 rfl (by kernel_rfl) (by rw [Try.ntmps31]; simp) ?_; rw [Try.ntmps31]
    repeat' ((fail_if_success (apply stopR (id := 3))); (fail_if_success (apply stopS (id := 3))); first | refine spD (fun _ => ?_) (fun _ => ?_) | refine spF (fun _ => ?_) (fun _ => ?_) | (apply gT; (exact rfl)) | (apply off; (exact rfl); (exact rfl)) | (apply condT; (exact rfl)) | (apply condF; (exact rfl)) | ((first | (apply stp0; (exact rfl); (exact rfl)) | (apply stpN0; (exact rfl)) | apply gT | apply condT | ((first | apply bodyQ_d0 | apply bodyQ_d1 | apply bodyQ_d2 | apply bodyQ_d3 | apply bodyQ_d4); (exact .inr rfl); (rw [Try.results31]))); (first | (focus (simp only [go_sem, ↓reduceIte, simprocAttr, Item.cs] <;> rfl)) | exact rfl); (first | (fail_if_success (show okD _ _ _ _ _ _ _ _ _)) | (first | exact okT | exact okN | exact okE rfl)); (first | (fail_if_success (show Bel _ _)) | (focus first | exact .val _ | (simp [oneOf, Bel_iff_tup, Bel_iff_agg, Bel_iff_rsl, Bel_iff_fn, Bel_iff_rptr, Bel_val]; done)))) | (apply calTo0; (exact rfl); (iterate 2 (simp only [go_sem, ↓reduceIte, simprocAttr, Item.cs]; rfl)); (first | exact hck); (first | exact okT | exact okN | exact okE rfl)) | refine thenQ_n ?_ | refine thenQ_r ?_ | refine thenQ_e ?_ | refine blockQ_n ?_ | refine blockQ_r ?_ | refine blockQ_e ?_ | (apply blockQ_o; (exact rfl)) | refine Awp.seq ?_ | refine Awp.skip ?_ | refine Awp.block ?_ | refine reg (fun s => false) ?_ | (apply drwE mixed (fun s => false); (kernel_rfl)) | refine fin ?_ | refine Awp.ret ?_ | refine Awp.exit ?_ | ((first | (apply off; (exact rfl)) | apply condF); (first | (focus (simp only [go_sem, ↓reduceIte, simprocAttr, Item.cs] <;> rfl)) | exact rfl)))
    all_goals first | contradiction | (exfalso; omega) | skip
    refine Awp.withT (fun T' => T' 0 = .mptr q 0 0 ∧ T' 3 = .rptr r.cs 0) ⟨by (first | (focus (simp only [go_sem, ↓reduceIte, simprocAttr]; first | done | rfl)) | rfl), by (first | (focus (simp only [go_sem, ↓reduceIte, simprocAttr, Item.cs]; first | done | rfl)) | rfl)⟩ ?_
    rintro T ⟨t0, t3⟩
    refine Awp.mono (rput3 hQ hl r t0 t3) ?_
    clear t0 t3 T
    rintro e T K ⟨hK, (⟨rfl, hm, t4, t5⟩ | ⟨rfl, hno, t0, t3⟩)⟩ <;> rw [hK]
    · refine thenQ_r ?_
      have hE : putE S r = 12 := by
        rcases h2 with ⟨_, h⟩ | ⟨h, _⟩
        · exact h
        · exact absurd hm h
      exact rputNo hQ hE (by omega) (by rw [Try.results31]; simp only [go_sem, ↓reduceIte, simprocAttr, t4, t5]) (.inr rfl)
    · refine thenQ_n ?_
      have h3 : (r.pk > S.cap ∧ putE S r = 14) ∨ (¬ r.pk > S.cap ∧ putE S r = 0) := by
        rcases h2 with ⟨h, _⟩ | ⟨_, h⟩
        · exact absurd h hno
        · exact h
      rw [hcap] at h3
      rcases h3 with ⟨hp, hE⟩ | ⟨hp, hE⟩
      · simp only [Item.cs] at t3
        repeat' (first | refine spD (fun _ => ?_) (fun _ => ?_) | refine spF (fun _ => ?_) (fun _ => ?_) | (apply gT; (exact rfl)) | (apply off; (exact rfl); (exact rfl)) | (apply condT; (exact rfl)) | (apply condF; (exact rfl)) | ((first | (apply stp0; (exact rfl); (exact rfl)) | (apply stpN0; (exact rfl)) | apply gT | apply condT); (first | (focus (simp only [go_sem, ↓reduceIte, simprocAttr, t0, t3, hb, hp] <;> rfl)) | exact rfl); (first | (fail_if_success (show okD _ _ _ _ _ _ _ _ _)) | (first | exact okT | exact okN | exact okE rfl))) | refine thenQ_n ?_ | refine thenQ_r ?_ | refine thenQ_e ?_ | refine blockQ_n ?_ | refine blockQ_r ?_ | refine blockQ_e ?_ | (apply blockQ_o; (exact rfl)) | refine Awp.seq ?_ | refine Awp.skip ?_ | refine Awp.block ?_ | refine reg (fun s => false) ?_ | (apply drwE mixed (fun s => false); (kernel_rfl)) | refine fin ?_ | refine Awp.ret ?_ | refine Awp.exit ?_ | ((first | (apply off; (exact rfl)) | apply condF); (first | (focus (simp only [go_sem, ↓reduceIte, simprocAttr, t0, t3, hb, hp] <;> rfl)) | exact rfl)))
        all_goals first | contradiction | (exfalso; omega) | skip
        exact rputNo hQ hE (by omega) (by rw [Try.results31]; simp only [go_sem, ↓reduceIte, simprocAttr]) (.inr rfl)
      · simp only [Item.cs] at t3
        repeat' ((fail_if_success (apply stopR (id := 10))); (fail_if_success (apply stopS (id := 10))); first | refine spD (fun _ => ?_) (fun _ => ?_) | refine spF (fun _ => ?_) (fun _ => ?_) | (apply gT; (exact rfl)) | (apply off; (exact rfl); (exact rfl)) | (apply condT; (exact rfl)) | (apply condF; (exact rfl)) | ((first | (apply stp0; (exact rfl); (exact rfl)) | (apply stpN0; (exact rfl)) | apply gT | apply condT | ((first | apply bodyQ_d0 | apply bodyQ_d1 | apply bodyQ_d2 | apply bodyQ_d3 | apply bodyQ_d4); (exact .inr rfl); (rw [Try.results31]))); (first | (focus (simp only [go_sem, ↓reduceIte, simprocAttr, t0, t3, hb, hp] <;> rfl)) | exact rfl); (first | (fail_if_success (show okD _ _ _ _ _ _ _ _ _)) | (first | exact okT | exact okN | exact okE rfl)); (first | (fail_if_success (show Bel _ _)) | (focus first | exact .val _ | (simp [oneOf, Bel_iff_tup, Bel_iff_agg, Bel_iff_rsl, Bel_iff_fn, Bel_iff_rptr, Bel_val]; done)))) | refine thenQ_n ?_ | refine thenQ_r ?_ | refine thenQ_e ?_ | refine blockQ_n ?_ | refine blockQ_r ?_ | refine blockQ_e ?_ | (apply blockQ_o; (exact rfl)) | refine Awp.seq ?_ | refine Awp.skip ?_ | refine Awp.block ?_ | refine reg (fun s => false) ?_ | (apply drwE mixed (fun s => false); (kernel_rfl)) | refine fin ?_ | refine Awp.ret ?_ | refine Awp.exit ?_ | ((first | (apply off; (exact rfl)) | apply condF); (first | (focus (simp only [go_sem, ↓reduceIte, simprocAttr, t0, t3, hb, hp] <;> rfl)) | exact rfl)))
        all_goals first | contradiction | (exfalso; omega) | skip
        refine Awp.seq (Awp.mono (Q := fun e T' K => e = .normal ∧ K = H ∧ T' 0 = .mptr q 0 0 ∧ T' 3 = .rptr r.cs 0 ∧ T' 7 = iv 0) ?_ ?_)
        · repeat' (first | refine spD (fun _ => ?_) (fun _ => ?_) | refine spF (fun _ => ?_) (fun _ => ?_) | (apply gT; (exact rfl)) | (apply off; (exact rfl); (exact rfl)) | (apply condT; (exact rfl)) | (apply condF; (exact rfl)) | ((first | (apply stp0; (exact rfl); (exact rfl)) | (apply stpN0; (exact rfl)) | apply gT | apply condT | ((first | apply bodyQ_d0 | apply bodyQ_d1 | apply bodyQ_d2 | apply bodyQ_d3 | apply bodyQ_d4); (exact .inr rfl); (rw [Try.results31]))); (first | (focus (simp only [go_sem, ↓reduceIte, simprocAttr] <;> rfl)) | exact rfl); (first | (fail_if_success (show okD _ _ _ _ _ _ _ _ _)) | (first | exact okT | exact okN | exact okE rfl)); (first | (fail_if_success (show Bel _ _)) | (focus first | exact .val _ | (simp [oneOf, Bel_iff_tup, Bel_iff_agg, Bel_iff_rsl, Bel_iff_fn, Bel_iff_rptr, Bel_val]; done)))) | refine thenQ_n ?_ | refine thenQ_r ?_ | refine thenQ_e ?_ | refine blockQ_n ?_ | refine blockQ_r ?_ | refine blockQ_e ?_ | (apply blockQ_o; (exact rfl)) | refine Awp.seq ?_ | refine Awp.skip ?_ | refine Awp.block ?_ | refine reg (fun s => false) ?_ | (apply drwE mixed (fun s => false); (kernel_rfl)) | refine fin ?_ | refine Awp.ret ?_ | refine Awp.exit ?_ | ((first | (apply off; (exact rfl)) | apply condF); (first | (focus (simp only [go_sem, ↓reduceIte, simprocAttr] <;> rfl)) | exact rfl)))
          all_goals first | contradiction | (exfalso; omega) | skip
          refine ⟨rfl, rfl, ?_, ?_, ?_⟩
          · (first | (focus (simp only [go_sem, ↓reduceIte, simprocAttr, t0]; first | done | rfl)) | rfl)
          · (first | (focus (simp only [go_sem, ↓reduceIte, simprocAttr, t3, Item.cs]; first | done | rfl)) | rfl)
          · (first | (focus (simp only [go_sem, ↓reduceIte, simprocAttr]; first | done | rfl)) | rfl)
        clear t0 t3 T
        rintro e T K ⟨rfl, hK, t0, t3, t7⟩
        rw [hK]
        refine thenQ_n ?_
        refine Awp.seq (Awp.mono (rput11 hQ hl hg.srt r t0 t3 t7) ?_)
        clear t0 t3 t7 T
        rintro e T K ⟨hK, rfl, t0, t3, t7⟩
        rw [hK]
        refine thenQ_n ?_
        obtain ⟨B31, hB31⟩ : ∃ B, B = bodyQ Try.prog Try.f31 H (RPost H q a c tm S r) := ⟨_, rfl⟩
        have hrow := hQ.row
        obtain ⟨L, hL⟩ : ∃ L, L = S.L := ⟨_, rfl⟩
        rw [← hL] at hrow
        cases hrow with
        | nil =>
          refine Awp.frzCellNil (k := 2) hb rfl ?_
          refine rput13a hg hcap hl h1 hno hE hql (List.length_set ..) (fun j hj e1 e2 => List.getElem?_set_ne (Ne.symm e1)) ?_ t0 t3 t7
          rw [← hL]
          exact List.getElem?_set_self hql
        | row hbv hn =>
          rename_i o n v
          have hvl := hds_len v
          have hqo : q ≠ o := by rintro rfl; rw [hb] at hbv; simp at hbv
          refine Awp.frzCell (k := 2) hqo hb rfl hbv (by rw [hvl]; exact hn) ?_
          refine rput13a hg hcap hl h1 hno hE hql (by rw [List.length_set, List.length_set]) (fun j hj e1 e2 => ?_) ?_ t0 t3 t7
          · rw [List.getElem?_set_ne (Ne.symm e1), List.getElem?_set_ne (fun e => e2 n (by rw [e]))]
          · rw [← hL, hds_take]
            exact List.getElem?_set_self (by rw [List.length_set]; exact hql)

end Go.Proofs.Ytlhchnnfgppneaa.Ab
