/- Inboxes: the reference's Take. -/
import Derived.Test.YtlhchnnfgppneaaEE
import Derived.Test.YtlhchnnfgppneaaQ4
import Derived.Test.YtlhchnnfgppneaaN9
namespace Go.Proofs.Ytlhchnnfgppneaa.Ab
open Go Go.RowKit Go.Proofs
set_option linter.unusedSimpArgs false
set_option linter.unusedVariables false
attribute [local irreducible] Awp wpO thenQ blockQ bodyQ ACalls stepA

theorem its_take (L : List Item) (i : Nat) : its (L.take i) = (its L).take i := by unfold its; rw [List.map_take]
theorem its_drop (L : List Item) (i : Nat) : its (L.drop i) = (its L).drop i := by unfold its; rw [List.map_drop]
theorem its_cell (L : List Item) : ∀ e ∈ its L, e.all AV.isCell = true := by intro e he; obtain ⟨h, _, rfl⟩ := List.mem_map.1 he; rfl
theorem its_zero {L : List Item} {i : Nat} (hi : i ≤ L.length) : i = 0 ∨ i = L.length ∨ ((its L)[i]?).map List.length = some 5 := by
  by_cases h : i < L.length
  · obtain ⟨x, hx⟩ := nth h
    right; right
    rw [its_at hx]; rfl
  · right; left; omega

theorem slToI {L : List Item} {i : Nat} (hi : i ≤ L.length) (ex : Bool) : sliceA Try.prog 75 (.rsl (its L) ex) none (some (iv i)) none = some (.rsl (its (L.take i)) (ex && (i == L.length))) := by
  rw [sl75]
  unfold sliceB bnd
  have e0 : (0 : Int) ≤ (i : Int) := by omega
  have h5 : 0 = i ∨ ((its L)[0]?).map List.length = some 5 := by
    rcases its_zero (L := L) (Nat.zero_le _) with h | h | h
    · cases L with
      | nil => left; simp at hi; omega
      | cons x l => right; rfl
    · left; omega
    · exact .inr h
  simp only [e0, if_true, Int.toNat_natCast, its_len, Nat.zero_le, hi, Nat.le_refl, true_and, h5, Option.isSome_none, Option.isSome_some, implies_true, and_true, List.drop_zero, its_take]
  simp
theorem slFromI {L : List Item} {i : Nat} (hi : i ≤ L.length) (ex : Bool) : sliceA Try.prog 75 (.rsl (its L) ex) (some (iv i)) none none = some (.rsl (its (L.drop i)) ex) := by
  rw [sl75]
  unfold sliceB bnd
  have e0 : (0 : Int) ≤ (i : Int) := by omega
  have h5 : i = L.length ∨ ((its L)[i]?).map List.length = some 5 := by
    rcases its_zero hi with h | h | h
    · subst h
      cases L with
      | nil => left; rfl
      | cons x l => right; rfl
    · exact .inl h
    · exact .inr h
  simp only [e0, if_true, Int.toNat_natCast, its_len, hi, Nat.le_refl, true_and, h5, Option.isSome_none, implies_true, and_true, its_drop]
  have e2 : List.take L.length (its L) = its L := by rw [← its_len L, List.take_length]
  simp [e2]


/-- a list of records, as a slice that may turn -/
inductive ItAt (H : Hp) : AV → List Item → Prop
  | nil : ItAt H nilS []
  | row {o n : Nat} {v : List Item} (hb : H[o]? = some (.cells (its v) 23)) (hn : n ≤ v.length) : ItAt H (.msl o 0 n) (v.take n)
theorem ItAt.get {H H' : Hp} {a : AV} {L : List Item} (h : ItAt H a L) (hk : ∀ o n v, a = .msl o 0 n → H[o]? = some (.cells (its v) 23) → H'[o]? = some (.cells (its v) 23)) : ItAt H' a L := by
  cases h with
  | nil => exact .nil
  | row hb hn => exact .row (hk _ _ _ rfl hb) hn
theorem ItAt.blk {H : Hp} {a : AV} {L : List Item} (h : ItAt H a L) {o m : Nat} (e : a = .msl o 0 m) : ∃ v, H[o]? = some (.cells (its v) 23) := by
  cases h with
  | nil => cases e
  | row hb hn => cases e; exact ⟨_, hb⟩
/-- the reference's inbox -/
structure RqX (H : Hp) (q : Nat) (a : AV) (R : List Item) : Prop where
  hb : H[q]? = some (.cells [[a]] 80)
  row : ItAt H a R
theorem RqX.grow {H H' : Hp} {q : Nat} {a : AV} {R : List Item} (h : RqX H q a R) (hG : Grow H H') : RqX H' q a R := ⟨hG.get h.hb, h.row.get fun _ _ _ _ h => hG.get h⟩
theorem Own.ito {lo : Nat} {K : Hp} {a : AV} {L : List Item} (h : Own lo 23 K a (its L)) (hn : L ≠ []) (hx : ∀ es ex, a ≠ .rsl es ex) : ∃ o, a = .msl o 0 L.length ∧ lo ≤ o ∧ K[o]? = some (.cells (its L) 23) := by
  generalize hes : its L = es at h
  cases h with
  | nil => cases L with
    | nil => exact absurd rfl hn
    | cons x l => simp [its] at hes
  | fix => exact absurd rfl (hx _ _)
  | row hne hlo hb => exact ⟨_, by rw [← hes, its_len], hlo, hb⟩

/-- what the reference's Take comes to -/
structure RTk (H : Hp) (q : Nat) (a : AV) (R : List Item) (H1 : Hp) : Prop where
  len : H.length ≤ H1.length
  old : ∀ j, j < H.length → j ≠ q → (∀ m, a ≠ .msl j 0 m) → H1[j]? = H[j]?
  rq : ∃ a', RqX H1 q a' R

set_option maxRecDepth 8000 in
set_option maxHeartbeats 8000000 in
theorem rtake10 {K : Hp} {q : Nat} {R : List Item} {r : Item} {T : Env} {Q : Exit → Env → Hp → Prop} (hb : K[q]? = some (.cells [[.rsl (its R) false]] 80)) (hl : R.length ≤ 256) (i : Nat) (hi : i ≤ R.length)
    (t0 : T 0 = .mptr q 0 0) (t3 : T 3 = .rptr r.cs 0) (t6 : T 6 = iv i)
    (hQ : ∀ T' K' o, K.length ≤ K'.length → (∀ j, j < K.length → j ≠ q → K'[j]? = K[j]?) → K'[q]? = some (.cells [[.msl o 0 (R.length + 1)]] 80) → K'[o]? = some (.cells (its (R.take i ++ r :: R.drop i)) 23) → Q .normal T' K') :
    Awp Try.prog 79 none (hdC (tl (tl (tl (tl (tl (tl (Try.f41.body.getD .skip)))))))) T K Q := by
  unfold Try.f41
  simp only [tl, hdC, inC, Option.getD_some]
  have hql := (List.getElem?_eq_some_iff.1 hb).1
  simp only [Item.cs] at t3
  have s1 := slToI hi false
  have s2 := slFromI hi false
  simp only [Bool.false_and] at s1
  obtain ⟨X1, hX1⟩ : ∃ X1, X1 = R.take i := ⟨_, rfl⟩
  obtain ⟨X3, hX3⟩ : ∃ X3, X3 = R.drop i := ⟨_, rfl⟩
  rw [← hX1, ← hX3] at hQ
  rw [← hX1] at s1
  rw [← hX3] at s2
  have l1 : X1.length ≤ 256 := by rw [hX1, List.length_take]; omega
  have l3 : X3.length ≤ 256 := by rw [hX3, List.length_drop]; omega
  have hXl : (X1 ++ r :: X3).length = R.length + 1 := by rw [List.length_append, List.length_cons, hX1, hX3, List.length_take, List.length_drop]; omega
  have hO1 : OwnX K.length 23 5 40 K (.rsl [] true) [] (its X1) := ⟨.fix, by simp, its_five _, its_cell _, by rw [its_len]; simp; omega⟩
  have hW1 := app_own hO1.own (Nat.le_refl _) (xs := its X1)
  rw [List.nil_append] at hW1
  have hG1 := app_grow hO1.own (xs := its X1) (Nat.le_refl _) (Grow.refl K)
  have hO2 : OwnR K.length 23 5 40 (appV K (.rsl [] true) [] (its X1) 23).2 (appV K (.rsl [] true) [] (its X1) 23).1 (its X1) := ⟨hW1, its_five _, by rw [its_len]; omega⟩
  have hG2 : Grow K (ownK (appV K (.rsl [] true) [] (its X1) 23).2 (appV K (.rsl [] true) [] (its X1) 23).1 ++ [.cells (its X1 ++ [[iv r.id, iv r.cls, iv r.made, iv r.size, iv r.pk]]) 23]) := (hW1.grow (Nat.le_refl _) hG1).app _
  have e2 : its X1 ++ [[iv r.id, iv r.cls, iv r.made, iv r.size, iv r.pk]] = its (X1 ++ [r]) := by simp [its, Item.cs]
  have hW2 : Own K.length 23 (ownK (appV K (.rsl [] true) [] (its X1) 23).2 (appV K (.rsl [] true) [] (its X1) 23).1 ++ [.cells (its X1 ++ [[iv r.id, iv r.cls, iv r.made, iv r.size, iv r.pk]]) 23]) (.msl (appV K (.rsl [] true) [] (its X1) 23).2.length 0 ((its X1).length + 1)) (its X1 ++ [[iv r.id, iv r.cls, iv r.made, iv r.size, iv r.pk]]) := by
    have e3 : (its X1).length + 1 = (its X1 ++ [[iv r.id, iv r.cls, iv r.made, iv r.size, iv r.pk]]).length := by simp [its_len]
    rw [e3]
    refine .row (by simp [its]) hG1.len ?_
    have := get_new (ownK (appV K (.rsl [] true) [] (its X1) 23).2 (appV K (.rsl [] true) [] (its X1) 23).1) (.cells (its X1 ++ [[iv r.id, iv r.cls, iv r.made, iv r.size, iv r.pk]]) 23)
    rw [ownK_len] at this
    exact this
  have hO3 : OwnX K.length 23 5 40 (ownK (appV K (.rsl [] true) [] (its X1) 23).2 (appV K (.rsl [] true) [] (its X1) 23).1 ++ [.cells (its X1 ++ [[iv r.id, iv r.cls, iv r.made, iv r.size, iv r.pk]]) 23]) (.msl (appV K (.rsl [] true) [] (its X1) 23).2.length 0 ((its X1).length + 1)) (its X1 ++ [[iv r.id, iv r.cls, iv r.made, iv r.size, iv r.pk]]) (its X3) :=
    ⟨hW2, by rw [e2]; exact its_five _, its_five _, its_cell _, by rw [e2, its_len, its_len]; simp; omega⟩
  have hW3 := app_own hO3.own hG2.len (xs := its X3)
  have hG3 := app_grow hO3.own (xs := its X3) (Nat.le_refl _) hG2
  have g1 := hG1.get hb
  have g2 := hG2.get hb
  have g3 := hG3.get hb
  have hi2 : (i : Int) ≤ (R.length : Int) := Int.ofNat_le.2 hi
  repeat' (first | refine spD (fun _ => ?_) (fun _ => ?_) | refine spF (fun _ => ?_) (fun _ => ?_) | (apply gT; (exact rfl)) | (apply off; (exact rfl); (exact rfl)) | (apply condT; (exact rfl)) | (apply condF; (exact rfl)) | ((first | (apply stp0; (exact rfl); (exact rfl)) | (apply stpN0; (exact rfl)) | apply gT | apply condT | ((first | apply bodyQ_d0 | apply bodyQ_d1 | apply bodyQ_d2 | apply bodyQ_d3 | apply bodyQ_d4); (exact .inr rfl); (rw [Try.results41]))); (first | (focus (simp only [go_sem, ↓reduceIte, simprocAttr, t0, t3, t6, hb, g1, g2, g3, s1, s2] <;> rfl)) | exact rfl); (first | (fail_if_success (show okD _ _ _ _ _ _ _ _ _)) | (first | exact trivial | exact ⟨fun _ => rfl, fun _ _ => rfl, fun h => Bool.noConfusion (show false = true from h)⟩ | (refine ⟨fun _ => rfl, fun _ _ => rfl, fun _ H2 hk => ?_⟩; have e := (hk (q) (beq_self_eq_true _)).trans ((by first | exact hb | exact g1 | exact g2 | exact g3)); unfold PerfTo; simp only [callOf]; (focus first | (simp only [go_sem, ↓reduceIte, simprocAttr, t0, t3, t6, hb, g1, g2, g3, s1, s2, e]; done) | (simp only [go_sem, ↓reduceIte, simprocAttr, t0, t3, t6, hb, g1, g2, g3, s1, s2, e]; rfl))) | (refine ⟨fun h => Bool.noConfusion (show true = false from h), fun b hQ => ?_, fun h => Bool.noConfusion (show false = true from h)⟩; have hQ' := eq_of_beq hQ; subst hQ'; first | exact g1.trans hb.symm | exact (g2.trans g1.symm) | exact (g3.trans g2.symm)))); (first | (fail_if_success (show Bel _ _)) | (focus first | exact .val _ | (simp [oneOf, Bel_iff_tup, Bel_iff_agg, Bel_iff_rsl, Bel_iff_fn, Bel_iff_rptr, Bel_val]; done)))) | (apply stpApp; (exact rfl); (first | exact hO2); (iterate 2 (first | (focus (simp only [go_sem, ↓reduceIte, simprocAttr, t0, t3, t6, hb, g1, g2, g3, s1, s2] <;> rfl)) | rfl)); (first | rfl | (simp [AV.isCell]; done)); (first | rfl | (simp; done)); (first | exact ap39 | exact ap44 | exact ap46 | exact ap61 | exact ap63 | exact ap75 | exact ap86 | exact ap101 | exact ap102); (first | exact trivial | exact ⟨fun _ => rfl, fun _ _ => rfl, fun h => Bool.noConfusion (show false = true from h)⟩ | (refine ⟨fun _ => rfl, fun _ _ => rfl, fun _ H2 hk => ?_⟩; have e := (hk (q) (beq_self_eq_true _)).trans ((by first | exact hb | exact g1 | exact g2 | exact g3)); unfold PerfTo; simp only [callOf]; (focus first | (simp only [go_sem, ↓reduceIte, simprocAttr, t0, t3, t6, hb, g1, g2, g3, s1, s2, e]; done) | (simp only [go_sem, ↓reduceIte, simprocAttr, t0, t3, t6, hb, g1, g2, g3, s1, s2, e]; rfl))) | (refine ⟨fun h => Bool.noConfusion (show true = false from h), fun b hQ => ?_, fun h => Bool.noConfusion (show false = true from h)⟩; have hQ' := eq_of_beq hQ; subst hQ'; first | exact g1.trans hb.symm | exact (g2.trans g1.symm) | exact (g3.trans g2.symm)))) | (apply stpAll; (exact rfl); (first | exact hO1 | exact hO3); (iterate 2 (first | (focus (simp only [go_sem, ↓reduceIte, simprocAttr, t0, t3, t6, hb, g1, g2, g3, s1, s2] <;> rfl)) | rfl)); (first | exact ap39 | exact ap44 | exact ap46 | exact ap61 | exact ap63 | exact ap75 | exact ap86 | exact ap101 | exact ap102); (first | exact trivial | exact ⟨fun _ => rfl, fun _ _ => rfl, fun h => Bool.noConfusion (show false = true from h)⟩ | (refine ⟨fun _ => rfl, fun _ _ => rfl, fun _ H2 hk => ?_⟩; have e := (hk (q) (beq_self_eq_true _)).trans ((by first | exact hb | exact g1 | exact g2 | exact g3)); unfold PerfTo; simp only [callOf]; (focus first | (simp only [go_sem, ↓reduceIte, simprocAttr, t0, t3, t6, hb, g1, g2, g3, s1, s2, e]; done) | (simp only [go_sem, ↓reduceIte, simprocAttr, t0, t3, t6, hb, g1, g2, g3, s1, s2, e]; rfl))) | (refine ⟨fun h => Bool.noConfusion (show true = false from h), fun b hQ => ?_, fun h => Bool.noConfusion (show false = true from h)⟩; have hQ' := eq_of_beq hQ; subst hQ'; first | exact g1.trans hb.symm | exact (g2.trans g1.symm) | exact (g3.trans g2.symm)))) | refine thenQ_n ?_ | refine thenQ_r ?_ | refine thenQ_e ?_ | refine blockQ_n ?_ | refine blockQ_r ?_ | refine blockQ_e ?_ | (apply blockQ_o; (exact rfl)) | refine Awp.seq ?_ | refine Awp.skip ?_ | refine Awp.block ?_ | refine reg (fun s => false) ?_ | (apply drwL mixed (fun s => false) ⟨fun i => i == 8 || i == 11 || i == 18, fun i => i == 5 || i == 9 || i == 15, fun b => b == q⟩; (exact rfl); (kernel_rfl); (kernel_rfl); simp only [List.pop_toArray, List.dropLast_cons_cons, List.dropLast_singleton, List.map_cons, List.map_nil]) | refine fin ?_ | refine Awp.ret ?_ | refine Awp.exit ?_ | ((first | (apply off; (exact rfl)) | apply condF); (first | (focus (simp only [go_sem, ↓reduceIte, simprocAttr, t0, t3, t6, hb, g1, g2, g3, s1, s2] <;> rfl)) | exact rfl)))
  all_goals first | contradiction | (exfalso; omega) | skip
  have e5 : its X1 ++ [[iv r.id, iv r.cls, iv r.made, iv r.size, iv r.pk]] ++ its X3 = its (X1 ++ r :: X3) := by simp [its, Item.cs]
  have hnr : ∀ es ex, (appV (ownK (appV K (.rsl [] true) [] (its X1) 23).2 (appV K (.rsl [] true) [] (its X1) 23).1 ++ [.cells (its X1 ++ [[iv r.id, iv r.cls, iv r.made, iv r.size, iv r.pk]]) 23]) (.msl (appV K (.rsl [] true) [] (its X1) 23).2.length 0 ((its X1).length + 1)) (its X1 ++ [[iv r.id, iv r.cls, iv r.made, iv r.size, iv r.pk]]) (its X3) 23).1 ≠ .rsl es ex := by unfold appV; intro es ex; split <;> (intro e; cases e)
  rw [e5] at hW3
  generalize (appV (ownK (appV K (.rsl [] true) [] (its X1) 23).2 (appV K (.rsl [] true) [] (its X1) 23).1 ++ [.cells (its X1 ++ [[iv r.id, iv r.cls, iv r.made, iv r.size, iv r.pk]]) 23]) (.msl (appV K (.rsl [] true) [] (its X1) 23).2.length 0 ((its X1).length + 1)) (its X1 ++ [[iv r.id, iv r.cls, iv r.made, iv r.size, iv r.pk]]) (its X3) 23) = V3 at *
  obtain ⟨o, eo, hlo, hbo⟩ := hW3.ito (by simp) hnr
  obtain ⟨v3, K3⟩ := V3
  simp only at eo hbo g3 hG3 ⊢
  rw [eo, hXl]
  repeat' (first | refine spD (fun _ => ?_) (fun _ => ?_) | refine spF (fun _ => ?_) (fun _ => ?_) | (apply gT; (exact rfl)) | (apply off; (exact rfl); (exact rfl)) | (apply condT; (exact rfl)) | (apply condF; (exact rfl)) | ((first | (apply stp0; (exact rfl); (exact rfl)) | (apply stpN0; (exact rfl)) | apply gT | apply condT | ((first | apply bodyQ_d0 | apply bodyQ_d1 | apply bodyQ_d2 | apply bodyQ_d3 | apply bodyQ_d4); (exact .inr rfl); (rw [Try.results41]))); (first | (focus (simp only [go_sem, ↓reduceIte, simprocAttr, g3] <;> rfl)) | exact rfl); (first | (fail_if_success (show okD _ _ _ _ _ _ _ _ _)) | (first | exact okT | exact okN | exact okE rfl)); (first | (fail_if_success (show Bel _ _)) | (focus first | exact .val _ | (simp [oneOf, Bel_iff_tup, Bel_iff_agg, Bel_iff_rsl, Bel_iff_fn, Bel_iff_rptr, Bel_val]; done)))) | refine thenQ_n ?_ | refine thenQ_r ?_ | refine thenQ_e ?_ | refine blockQ_n ?_ | refine blockQ_r ?_ | refine blockQ_e ?_ | (apply blockQ_o; (exact rfl)) | refine Awp.seq ?_ | refine Awp.skip ?_ | refine Awp.block ?_ | refine reg (fun s => false) ?_ | (apply drwE mixed (fun s => false); (kernel_rfl)) | refine fin ?_ | refine Awp.ret ?_ | refine Awp.exit ?_ | ((first | (apply off; (exact rfl)) | apply condF); (first | (focus (simp only [go_sem, ↓reduceIte, simprocAttr, g3] <;> rfl)) | exact rfl)))
  all_goals first | contradiction | (exfalso; omega) | skip
  refine hQ _ _ o ?_ ?_ ?_ ?_
  · rw [List.length_set]; exact hG3.len
  · intro j hj hjq
    rw [List.getElem?_set_ne (Ne.symm hjq)]; exact hG3.old j hj
  · exact (heldS g3).1 _
  · rw [List.getElem?_set_ne (by omega)]; exact hbo

end Go.Proofs.Ytlhchnnfgppneaa.Ab
