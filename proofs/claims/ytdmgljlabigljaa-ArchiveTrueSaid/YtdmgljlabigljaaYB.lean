/- Archive: filled, with no order. -/
import Derived.Test.YtdmgljlabigljaaYA
namespace Go.Proofs.Ytdmgljlabigljaa.Ab
open Go Go.RowKit Go.Proofs
set_option linter.unusedSimpArgs false
set_option linter.unusedVariables false
attribute [local irreducible] Awp wpO thenQ blockQ bodyQ ACalls stepA

def fillL (S : List Ser) (L : List Ent) : List Ent := L.foldl (addL S) []
theorem addL_len {S : List Ser} {L : List Ent} (h : L.length ≤ 1024) (e : Ent) : (addL S L e).length ≤ 1024 ∧ (addL S L e).length ≤ L.length + 1 := by
  unfold addL
  have hi : ∀ L : List Ent, (insE e L).length = L.length + 1 := fun L => by rw [(insE_perm e L).length_eq]; simp
  split
  · split
    · omega
    · split
      · omega
      · rw [hi]; omega
  · omega
theorem Arc.nil {K : Hp} {p b : Nat} {S : List Ser} (hp : K[p]? = some (.cells [[.rsl (sers S) false, .mp b]] 58)) (hb : K[b]? = some (.amap [])) : Arc K p b S [] := ⟨hp, ⟨[], hb, List.Perm.refl _⟩, List.Pairwise.nil⟩
theorem ents_cons (e : Ent) (l : List Ent) : ents (e :: l) = [iv e.series, iv e.time, iv e.version, iv e.arrived, iv e.owner, iv e.free, iv e.lo, iv e.hi, .val (.string e.cause)] :: ents l := rfl

set_option maxRecDepth 8000 in
set_option maxHeartbeats 8000000 in
theorem filled_ok (H : Hp) (S : List Ser) (L : List Ent) (ex ex' : Bool) (hlen : L.length ≤ 1024) : ACalls Try.prog 7 [.rsl (sers S) ex, .rsl (ents L) ex', nilS] H fun v K =>
    (newC S ≠ 0 ∧ v = nilP ∧ Grow H K) ∨ (newC S = 0 ∧ ∃ p b, v = .mptr p 0 0 ∧ H.length ≤ p ∧ H.length ≤ b ∧ Arc K p b S (fillL S L) ∧ Grow H K) := by
  have hN := New_ok H S ex
  refine ACalls.of_body Try.func7 rfl (by kernel_rfl) (by rw [Try.ntmps7]; simp) ?_; rw [Try.ntmps7]
  repeat' (first | refine spD (fun _ => ?_) (fun _ => ?_) | refine spF (fun _ => ?_) (fun _ => ?_) | (apply gT; (exact rfl)) | (apply off; (exact rfl); (exact rfl)) | (apply condT; (exact rfl)) | (apply condF; (exact rfl)) | ((first | (apply stp0; (exact rfl); (exact rfl)) | (apply stpN0; (exact rfl)) | apply gT | apply condT | ((first | apply bodyQ_d0 | apply bodyQ_d1 | apply bodyQ_d2 | apply bodyQ_d3 | apply bodyQ_d4); (exact .inr rfl); (rw [Try.results7]))); (first | (focus (simp only [go_sem, ↓reduceIte, simprocAttr] <;> rfl)) | exact rfl); (first | (fail_if_success (show okD _ _ _ _ _ _ _ _ _)) | (first | exact okT | exact okN | exact okE rfl)); (first | (fail_if_success (show Bel _ _)) | (focus first | exact .val _ | (simp [oneOf, Bel_iff_tup, Bel_iff_agg, Bel_iff_rsl, Bel_iff_fn, Bel_iff_rptr, Bel_val]; done)))) | refine thenQ_n ?_ | refine thenQ_r ?_ | refine thenQ_e ?_ | refine blockQ_n ?_ | refine blockQ_r ?_ | refine blockQ_e ?_ | (apply blockQ_o; (exact rfl)) | refine Awp.seq ?_ | refine Awp.skip ?_ | refine Awp.block ?_ | refine reg (fun s => false) ?_ | (apply drwE mixed (fun s => false); (kernel_rfl)) | refine fin ?_ | refine Awp.ret ?_ | refine Awp.exit ?_ | ((first | (apply off; (exact rfl)) | apply condF); (first | (focus (simp only [go_sem, ↓reduceIte, simprocAttr] <;> rfl)) | exact rfl)))
  all_goals first | contradiction | skip
  refine cal rfl rfl rfl ?_ (show ACallV Try.prog (.fn (.func 13) []) [.rsl (sers S) ex] _ _ from hN) ?_
  · (first | (focus (simp only [go_sem, ↓reduceIte, simprocAttr]; first | done | rfl)) | rfl)
  rintro v1 K (⟨hc, rfl, hG⟩ | ⟨hc, p, b, rfl, hpl, hbl, hp, hb, hG⟩)
  · repeat' (first | refine spD (fun _ => ?_) (fun _ => ?_) | refine spF (fun _ => ?_) (fun _ => ?_) | (apply gT; (exact rfl)) | (apply off; (exact rfl); (exact rfl)) | (apply condT; (exact rfl)) | (apply condF; (exact rfl)) | ((first | (apply stp0; (exact rfl); (exact rfl)) | (apply stpN0; (exact rfl)) | apply gT | apply condT); (first | (focus (simp only [go_sem, ↓reduceIte, simprocAttr, hc, bne_iff_ne, ne_eq, not_false_eq_true] <;> rfl)) | exact rfl); (first | (fail_if_success (show okD _ _ _ _ _ _ _ _ _)) | (first | exact okT | exact okN | exact okE rfl))) | refine thenQ_n ?_ | refine thenQ_r ?_ | refine thenQ_e ?_ | refine blockQ_n ?_ | refine blockQ_r ?_ | refine blockQ_e ?_ | (apply blockQ_o; (exact rfl)) | refine Awp.seq ?_ | refine Awp.skip ?_ | refine Awp.block ?_ | refine reg (fun s => false) ?_ | (apply drwE mixed (fun s => false); (kernel_rfl)) | refine fin ?_ | refine Awp.ret ?_ | refine Awp.exit ?_ | ((first | (apply off; (exact rfl)) | apply condF); (first | (focus (simp only [go_sem, ↓reduceIte, simprocAttr, hc, bne_iff_ne, ne_eq, not_false_eq_true] <;> rfl)) | exact rfl)))
    all_goals first | contradiction | skip
    exact bodyQ_mk (vs := [nilP]) (.inr rfl) (by rw [Try.results7]; first | (simp only [go_sem, ↓reduceIte, simprocAttr]; done) | (simp only [go_sem, ↓reduceIte, simprocAttr]; rfl)) (Vs.refl _ _ _) (.inl ⟨hc, rfl, hG⟩)
  have hOX : OwnX K.length 31 9 80 K (.rsl [] true) [] (ents L) := ⟨.fix, by simp, ents_nine _, ents_cell _, by rw [ents_len]; simp; omega⟩
  repeat' (first | refine spD (fun _ => ?_) (fun _ => ?_) | refine spF (fun _ => ?_) (fun _ => ?_) | (apply gT; (exact rfl)) | (apply off; (exact rfl); (exact rfl)) | (apply condT; (exact rfl)) | (apply condF; (exact rfl)) | ((first | (apply stp0; (exact rfl); (exact rfl)) | (apply stpN0; (exact rfl)) | apply gT | apply condT | ((first | apply bodyQ_d0 | apply bodyQ_d1 | apply bodyQ_d2 | apply bodyQ_d3 | apply bodyQ_d4); (exact .inr rfl); (rw [Try.results7]))); (first | (focus (simp only [go_sem, ↓reduceIte, simprocAttr, hc] <;> rfl)) | exact rfl); (first | (fail_if_success (show okD _ _ _ _ _ _ _ _ _)) | (first | exact okT | exact okN | exact okE rfl)); (first | (fail_if_success (show Bel _ _)) | (focus first | exact .val _ | (simp [oneOf, Bel_iff_tup, Bel_iff_agg, Bel_iff_rsl, Bel_iff_fn, Bel_iff_rptr, Bel_val]; done)))) | (apply stpAll; (exact rfl); (first | exact hOX); (iterate 2 (first | (focus (simp only [go_sem, ↓reduceIte, simprocAttr, hc] <;> rfl)) | rfl)); (first | exact ap22 | exact ap23 | exact ap55 | exact ap79 | exact ap83 | exact ap96 | exact ap99); (first | exact okT | exact okN | exact okE rfl)) | refine thenQ_n ?_ | refine thenQ_r ?_ | refine thenQ_e ?_ | refine blockQ_n ?_ | refine blockQ_r ?_ | refine blockQ_e ?_ | (apply blockQ_o; (exact rfl)) | refine Awp.seq ?_ | refine Awp.skip ?_ | refine Awp.block ?_ | refine reg (fun s => false) ?_ | (apply drwE mixed (fun s => false); (kernel_rfl)) | refine fin ?_ | refine Awp.ret ?_ | refine Awp.exit ?_ | ((first | (apply off; (exact rfl)) | apply condF); (first | (focus (simp only [go_sem, ↓reduceIte, simprocAttr, hc] <;> rfl)) | exact rfl)))
  all_goals first | contradiction | skip
  refine Awp.mono (Q := fun e T' K => e = .exit 0 ∧ T' 7 = .mptr p 0 0 ∧ Arc K p b S (fillL S L) ∧ Grow H K) ?_ ?_
  · refine Awp.withT (fun T' => T' 1 = (appV K (.rsl [] true) [] (ents L) 31).1 ∧ T' 2 = nilS ∧ T' 7 = .mptr p 0 0 ∧ T' 9 = iv 0) ⟨by (first | (focus (simp only [go_sem, ↓reduceIte, simprocAttr]; first | done | rfl)) | rfl), by (first | (focus (simp only [go_sem, ↓reduceIte, simprocAttr]; first | done | rfl)) | rfl), by (first | (focus (simp only [go_sem, ↓reduceIte, simprocAttr]; first | done | rfl)) | rfl), by (first | (focus (simp only [go_sem, ↓reduceIte, simprocAttr]; first | done | rfl)) | rfl)⟩ ?_
    rintro T ⟨t1, t2, t7, t9⟩
    have o1 := app_own hOX.own (xs := ents L) (Nat.le_refl _)
    have o2 := app_grow (xs := ents L) hOX.own hG.len hG
    have o3 : (appV K (.rsl [] true) [] (ents L) 31).2[p]? = some (.cells [[.rsl (sers S) false, .mp b]] 58) := by
      unfold appV; split; exact hp; exact (held hp).2.1 _
    have o4 : (appV K (.rsl [] true) [] (ents L) 31).2[b]? = some (.amap []) := by
      unfold appV; split; exact hb; exact (held hb).2.1 _
    have hpK := (List.getElem?_eq_some_iff.1 hp).1
    have hbK := (List.getElem?_eq_some_iff.1 hb).1
    refine Awp.frzOwn 1 o1 t1 ?_
    have r3 := (ownK_low o1 hpK).trans o3
    have r4 := (ownK_low o1 hbK).trans o4
    have r5 := o1.grow hG.len o2
    have u1 : upd T 1 (.rsl ([] ++ ents L) false) 1 = .rsl (ents L) false := by simp [upd]
    have u2 : upd T 1 (.rsl ([] ++ ents L) false) 2 = nilS := by simpa [upd] using t2
    have u7 : upd T 1 (.rsl ([] ++ ents L) false) 7 = .mptr p 0 0 := by simpa [upd] using t7
    have u9 : upd T 1 (.rsl ([] ++ ents L) false) 9 = iv 0 := by simpa [upd] using t9
    generalize upd T 1 (.rsl ([] ++ ents L) false) = T1 at *
    generalize ownK (appV K (.rsl [] true) [] (ents L) 31).2 (appV K (.rsl [] true) [] (ents L) 31).1 = K1 at *
    clear o1 o2 o3 o4 hOX t1 t2 t7 t9 hN
    refine Awp.loop (ι := Nat) (fun i T' K => i ≤ L.length ∧ (T' 1 = .rsl (ents (L.drop i)) false ∧ T' 2 = nilS ∧ T' 7 = .mptr p 0 0 ∧ T' 9 = iv i) ∧ Arc K p b S (fillL S (L.take i)) ∧ Grow H K) (fun i => L.length - i) 0 ?_ ?_
    · exact ⟨Nat.zero_le _, ⟨u1, u2, u7, u9⟩, by rw [List.take_zero]; exact Arc.nil r3 r4, r5⟩
    clear u1 u2 u7 u9 T T1 r3 r4 r5 K1 hp hb hpK hbK hG K
    rintro i T K ⟨hi, ⟨t1, t2, t7, t9⟩, hA, hG⟩
    by_cases hil : i < L.length
    · obtain ⟨e, he⟩ := nth hil
      have hd : L.drop i = e :: L.drop (i + 1) := by rw [List.drop_eq_getElem_cons hil, (List.getElem?_eq_some_iff.1 he).2]
      have hw := wsucc hil (show L.length ≤ maxLen by simp only [maxLen]; omega)
      have hAdd := Add_ok K hA e
      have hft : fillL S (L.take (i + 1)) = addL S (fillL S (L.take i)) e := by unfold fillL; rw [List.take_add_one, he, List.foldl_append]; rfl
      have hdl := ents_len (L.drop (i + 1))
      have hdl2 : (L.drop (i + 1)).length = L.length - (i + 1) := List.length_drop
      have hpos : ((ents (L.drop (i + 1))).length : Int) + 1 > 0 := by omega
      rw [hd, ents_cons] at t1
      repeat' (first | refine spD (fun _ => ?_) (fun _ => ?_) | refine spF (fun _ => ?_) (fun _ => ?_) | (apply gT; (exact rfl)) | (apply off; (exact rfl); (exact rfl)) | (apply condT; (exact rfl)) | (apply condF; (exact rfl)) | ((first | (apply stp0; (exact rfl); (exact rfl)) | (apply stpN0; (exact rfl)) | apply gT | apply condT | ((first | apply bodyQ_d0 | apply bodyQ_d1 | apply bodyQ_d2 | apply bodyQ_d3 | apply bodyQ_d4); (exact .inr rfl); (rw [Try.results7]))); (first | (focus (simp only [go_sem, ↓reduceIte, simprocAttr, t1, t2, t7, t9, List.length_cons, hpos, Int.natCast_add, Int.natCast_one] <;> rfl)) | exact rfl); (first | (fail_if_success (show okD _ _ _ _ _ _ _ _ _)) | (first | exact okT | exact okN | exact okE rfl)); (first | (fail_if_success (show Bel _ _)) | (focus first | exact .val _ | (simp [oneOf, Bel_iff_tup, Bel_iff_agg, Bel_iff_rsl, Bel_iff_fn, Bel_iff_rptr, Bel_val]; done)))) | refine thenQ_n ?_ | refine thenQ_r ?_ | refine thenQ_e ?_ | refine blockQ_n ?_ | refine blockQ_r ?_ | refine blockQ_e ?_ | (apply blockQ_o; (exact rfl)) | refine Awp.seq ?_ | refine Awp.skip ?_ | refine Awp.block ?_ | refine reg (fun s => false) ?_ | (apply drwE mixed (fun s => false); (kernel_rfl)) | refine fin ?_ | refine Awp.ret ?_ | refine Awp.exit ?_ | ((first | (apply off; (exact rfl)) | apply condF); (first | (focus (simp only [go_sem, ↓reduceIte, simprocAttr, t1, t2, t7, t9, List.length_cons, hpos, Int.natCast_add, Int.natCast_one] <;> rfl)) | exact rfl)))
      all_goals first | contradiction | skip
      refine cal rfl rfl rfl ?_ (show ACallV Try.prog (.fn (.func 16) []) [.mptr p 0 0, .agg e.cs] _ _ from hAdd) ?_
      · (first | (focus (simp only [go_sem, ↓reduceIte, simprocAttr, Ent.cs]; first | done | rfl)) | rfl)
      rintro v1 K1 ⟨rfl, hA1, hl1, hk1⟩
      have hG1 : Grow H K1 := ⟨by have := hG.len; omega, fun j hj => by rw [hk1 j (by have := hG.len; omega) (by omega)]; exact hG.old j hj⟩
      have hOX : OwnX K1.length 31 9 80 K1 (.rsl [] true) [] (ents (L.drop (i + 1))) := ⟨.fix, by simp, ents_nine _, ents_cell _, by rw [hdl, hdl2]; simp; omega⟩
      have c0 : 0 ≤ (ents (L.drop (i + 1))).length + 1 := Nat.zero_le _
      have c1 : 1 ≤ (ents (L.drop (i + 1))).length + 1 := Nat.le_add_left _ _
      have c2 : (ents (L.drop (i + 1))).length = 0 ∨ Option.map List.length (ents (L.drop (i + 1)))[0]? = some 9 := by
        cases L.drop (i + 1) with
        | nil => exact .inl rfl
        | cons x R => exact .inr rfl
      have cw : IntKind.i64.wrap 1 = 1 := by rw [w64 (by omega) (by omega)]
      have cj : (0 : Int) ≤ 1 := by omega
      have ct : (1 : Int).toNat = 1 := rfl
      have c3 : (ents (L.drop (i + 1))).take (ents (L.drop (i + 1))).length = ents (L.drop (i + 1)) := List.take_length
      repeat' ((fail_if_success (apply stopR (id := 7))); (fail_if_success (apply stopS (id := 7))); first | refine spD (fun _ => ?_) (fun _ => ?_) | refine spF (fun _ => ?_) (fun _ => ?_) | (apply gT; (exact rfl)) | (apply off; (exact rfl); (exact rfl)) | (apply condT; (exact rfl)) | (apply condF; (exact rfl)) | ((first | (apply stp0; (exact rfl); (exact rfl)) | (apply stpN0; (exact rfl)) | apply gT | apply condT | ((first | apply bodyQ_d0 | apply bodyQ_d1 | apply bodyQ_d2 | apply bodyQ_d3 | apply bodyQ_d4); (exact .inr rfl); (rw [Try.results7]))); (first | (focus (simp only [go_sem, ↓reduceIte, simprocAttr, t1, t2, t7, t9, List.length_cons, hpos, Int.natCast_add, Int.natCast_one, List.drop_succ_cons, List.drop_zero, c0, c1, c2, c3, imp_self, Nat.le_refl, List.take_succ_cons, List.getElem?_cons_succ, true_or, or_true, and_true, true_and, cw, cj, ct] <;> rfl)) | exact rfl); (first | (fail_if_success (show okD _ _ _ _ _ _ _ _ _)) | (first | exact okT | exact okN | exact okE rfl)); (first | (fail_if_success (show Bel _ _)) | (focus first | exact .val _ | (simp [oneOf, Bel_iff_tup, Bel_iff_agg, Bel_iff_rsl, Bel_iff_fn, Bel_iff_rptr, Bel_val]; done)))) | (apply stpAll; (exact rfl); (first | exact hOX); (iterate 2 (first | (focus (simp only [go_sem, ↓reduceIte, simprocAttr, t1, t2, t7, t9, List.length_cons, hpos, Int.natCast_add, Int.natCast_one, List.drop_succ_cons, List.drop_zero, c0, c1, c2, c3, imp_self, Nat.le_refl, List.take_succ_cons, List.getElem?_cons_succ, true_or, or_true, and_true, true_and, cw, cj, ct] <;> rfl)) | rfl)); (first | exact ap22 | exact ap23 | exact ap55 | exact ap79 | exact ap83 | exact ap96 | exact ap99); (first | exact okT | exact okN | exact okE rfl)) | refine thenQ_n ?_ | refine thenQ_r ?_ | refine thenQ_e ?_ | refine blockQ_n ?_ | refine blockQ_r ?_ | refine blockQ_e ?_ | (apply blockQ_o; (exact rfl)) | refine Awp.seq ?_ | refine Awp.skip ?_ | refine Awp.block ?_ | refine reg (fun s => false) ?_ | (apply drwE mixed (fun s => false); (kernel_rfl)) | refine fin ?_ | refine Awp.ret ?_ | refine Awp.exit ?_ | ((first | (apply off; (exact rfl)) | apply condF); (first | (focus (simp only [go_sem, ↓reduceIte, simprocAttr, t1, t2, t7, t9, List.length_cons, hpos, Int.natCast_add, Int.natCast_one, List.drop_succ_cons, List.drop_zero, c0, c1, c2, c3, imp_self, Nat.le_refl, List.take_succ_cons, List.getElem?_cons_succ, true_or, or_true, and_true, true_and, cw, cj, ct] <;> rfl)) | exact rfl)))
      all_goals first | contradiction | skip
      refine Awp.withT (fun T' => T' 1 = (appV K1 (.rsl [] true) [] (ents (L.drop (i + 1))) 31).1 ∧ T' 2 = nilS ∧ T' 7 = .mptr p 0 0 ∧ T' 9 = iv i) ⟨by (first | (focus (simp only [go_sem, ↓reduceIte, simprocAttr]; first | done | rfl)) | rfl), by (first | (focus (simp only [go_sem, ↓reduceIte, simprocAttr, t2]; first | done | rfl)) | rfl), by (first | (focus (simp only [go_sem, ↓reduceIte, simprocAttr, t7]; first | done | rfl)) | rfl), by (first | (focus (simp only [go_sem, ↓reduceIte, simprocAttr, t9]; first | done | rfl)) | rfl)⟩ ?_
      clear t1 t2 t7 t9 T
      rintro T ⟨t1, t2, t7, t9⟩
      have o1 := app_own hOX.own (xs := ents (L.drop (i + 1))) (Nat.le_refl _)
      have o2 := app_grow (xs := ents (L.drop (i + 1))) hOX.own hG1.len hG1
      obtain ⟨Tt, hb1, hTt⟩ := hA1.tab
      have hpK := (List.getElem?_eq_some_iff.1 hA1.hp).1
      have hbK := (List.getElem?_eq_some_iff.1 hb1).1
      have o3 : ∀ x, x < K1.length → (appV K1 (.rsl [] true) [] (ents (L.drop (i + 1))) 31).2[x]? = K1[x]? := by
        intro x hx
        unfold appV; split; rfl; exact List.getElem?_append_left (by rw [ownK_len]; exact hx)
      refine Awp.frzOwn 1 o1 t1 ?_
      have r3 := (ownK_low o1 hpK).trans (o3 p hpK)
      have r4 := (ownK_low o1 hbK).trans (o3 b hbK)
      have r5 := o1.grow hG1.len o2
      have hA2 := hA1.keep r3 r4
      have u1 : upd T 1 (.rsl ([] ++ ents (L.drop (i + 1))) false) 1 = .rsl (ents (L.drop (i + 1))) false := by simp [upd]
      have u2 : upd T 1 (.rsl ([] ++ ents (L.drop (i + 1))) false) 2 = nilS := by simpa [upd] using t2
      have u7 : upd T 1 (.rsl ([] ++ ents (L.drop (i + 1))) false) 7 = .mptr p 0 0 := by simpa [upd] using t7
      have u9 : upd T 1 (.rsl ([] ++ ents (L.drop (i + 1))) false) 9 = iv i := by simpa [upd] using t9
      generalize upd T 1 (.rsl ([] ++ ents (L.drop (i + 1))) false) = T1 at *
      generalize ownK (appV K1 (.rsl [] true) [] (ents (L.drop (i + 1))) 31).2 (appV K1 (.rsl [] true) [] (ents (L.drop (i + 1))) 31).1 = K2 at *
      repeat' (first | refine spD (fun _ => ?_) (fun _ => ?_) | refine spF (fun _ => ?_) (fun _ => ?_) | (apply gT; (exact rfl)) | (apply off; (exact rfl); (exact rfl)) | (apply condT; (exact rfl)) | (apply condF; (exact rfl)) | ((first | (apply stp0; (exact rfl); (exact rfl)) | (apply stpN0; (exact rfl)) | apply gT | apply condT | ((first | apply bodyQ_d0 | apply bodyQ_d1 | apply bodyQ_d2 | apply bodyQ_d3 | apply bodyQ_d4); (exact .inr rfl); (rw [Try.results7]))); (first | (focus (simp only [go_sem, ↓reduceIte, simprocAttr, u9, hw] <;> rfl)) | exact rfl); (first | (fail_if_success (show okD _ _ _ _ _ _ _ _ _)) | (first | exact okT | exact okN | exact okE rfl)); (first | (fail_if_success (show Bel _ _)) | (focus first | exact .val _ | (simp [oneOf, Bel_iff_tup, Bel_iff_agg, Bel_iff_rsl, Bel_iff_fn, Bel_iff_rptr, Bel_val]; done)))) | refine thenQ_n ?_ | refine thenQ_r ?_ | refine thenQ_e ?_ | refine blockQ_n ?_ | refine blockQ_r ?_ | refine blockQ_e ?_ | (apply blockQ_o; (exact rfl)) | refine Awp.seq ?_ | refine Awp.skip ?_ | refine Awp.block ?_ | refine reg (fun s => false) ?_ | (apply drwE mixed (fun s => false); (kernel_rfl)) | refine fin ?_ | refine Awp.ret ?_ | refine Awp.exit ?_ | ((first | (apply off; (exact rfl)) | apply condF); (first | (focus (simp only [go_sem, ↓reduceIte, simprocAttr, u9, hw] <;> rfl)) | exact rfl)))
      all_goals first | contradiction | skip
      exact ⟨i + 1, ⟨by omega, ⟨by (first | (focus (simp only [go_sem, ↓reduceIte, simprocAttr, u1]; first | done | rfl)) | rfl), by (first | (focus (simp only [go_sem, ↓reduceIte, simprocAttr, u2]; first | done | rfl)) | rfl), by (first | (focus (simp only [go_sem, ↓reduceIte, simprocAttr, u7]; first | done | rfl)) | rfl), by (first | (focus (simp only [go_sem, ↓reduceIte, simprocAttr]; first | done | rfl)) | rfl)⟩, by rw [hft]; exact hA2, r5⟩, by omega⟩
    · have hieq : i = L.length := by omega
      rw [hieq, List.drop_length] at t1
      rw [hieq, List.take_length] at hA
      simp only [ents, List.map_nil] at t1
      repeat' (first | refine spD (fun _ => ?_) (fun _ => ?_) | refine spF (fun _ => ?_) (fun _ => ?_) | (apply gT; (exact rfl)) | (apply off; (exact rfl); (exact rfl)) | (apply condT; (exact rfl)) | (apply condF; (exact rfl)) | ((first | (apply stp0; (exact rfl); (exact rfl)) | (apply stpN0; (exact rfl)) | apply gT | apply condT | ((first | apply bodyQ_d0 | apply bodyQ_d1 | apply bodyQ_d2 | apply bodyQ_d3 | apply bodyQ_d4); (exact .inr rfl); (rw [Try.results7]))); (first | (focus (simp only [go_sem, ↓reduceIte, simprocAttr, t1, List.length_nil, Int.natCast_zero] <;> rfl)) | exact rfl); (first | (fail_if_success (show okD _ _ _ _ _ _ _ _ _)) | (first | exact okT | exact okN | exact okE rfl)); (first | (fail_if_success (show Bel _ _)) | (focus first | exact .val _ | (simp [oneOf, Bel_iff_tup, Bel_iff_agg, Bel_iff_rsl, Bel_iff_fn, Bel_iff_rptr, Bel_val]; done)))) | refine thenQ_n ?_ | refine thenQ_r ?_ | refine thenQ_e ?_ | refine blockQ_n ?_ | refine blockQ_r ?_ | refine blockQ_e ?_ | (apply blockQ_o; (exact rfl)) | refine Awp.seq ?_ | refine Awp.skip ?_ | refine Awp.block ?_ | refine reg (fun s => false) ?_ | (apply drwE mixed (fun s => false); (kernel_rfl)) | refine fin ?_ | refine Awp.ret ?_ | refine Awp.exit ?_ | ((first | (apply off; (exact rfl)) | apply condF); (first | (focus (simp only [go_sem, ↓reduceIte, simprocAttr, t1, List.length_nil, Int.natCast_zero] <;> rfl)) | exact rfl)))
      all_goals first | contradiction | skip
      exact ⟨rfl, by (first | (focus (simp only [go_sem, ↓reduceIte, simprocAttr, t7]; first | done | rfl)) | rfl), hA, hG⟩
  · rintro ex T K ⟨rfl, t7, hA, hG⟩
    repeat' (first | refine spD (fun _ => ?_) (fun _ => ?_) | refine spF (fun _ => ?_) (fun _ => ?_) | (apply gT; (exact rfl)) | (apply off; (exact rfl); (exact rfl)) | (apply condT; (exact rfl)) | (apply condF; (exact rfl)) | ((first | (apply stp0; (exact rfl); (exact rfl)) | (apply stpN0; (exact rfl)) | apply gT | apply condT); (first | (focus (simp only [go_sem, ↓reduceIte, simprocAttr, t7] <;> rfl)) | exact rfl); (first | (fail_if_success (show okD _ _ _ _ _ _ _ _ _)) | (first | exact okT | exact okN | exact okE rfl))) | refine thenQ_n ?_ | refine thenQ_r ?_ | refine thenQ_e ?_ | refine blockQ_n ?_ | refine blockQ_r ?_ | refine blockQ_e ?_ | (apply blockQ_o; (exact rfl)) | refine Awp.seq ?_ | refine Awp.skip ?_ | refine Awp.block ?_ | refine reg (fun s => false) ?_ | (apply drwE mixed (fun s => false); (kernel_rfl)) | refine fin ?_ | refine Awp.ret ?_ | refine Awp.exit ?_ | ((first | (apply off; (exact rfl)) | apply condF); (first | (focus (simp only [go_sem, ↓reduceIte, simprocAttr, t7] <;> rfl)) | exact rfl)))
    all_goals first | contradiction | skip
    exact bodyQ_mk (vs := [.mptr p 0 0]) (.inr rfl) (by rw [Try.results7]; first | (simp only [go_sem, ↓reduceIte, simprocAttr]; done) | (simp only [go_sem, ↓reduceIte, simprocAttr]; rfl)) (Vs.refl _ _ _) (.inr ⟨hc, p, b, rfl, hpl, hbl, hA, hG⟩)

end Go.Proofs.Ytdmgljlabigljaa.Ab
