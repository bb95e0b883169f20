/- Archive: Works is true. -/
import Derived.Test.YtdmgljlabigljaaYD
import Derived.Test.YtdmgljlabigljaaYE
namespace Go.Proofs.Ytdmgljlabigljaa.Ab
open Go Go.RowKit Go.Proofs
set_option linter.unusedSimpArgs false
set_option linter.unusedVariables false
attribute [local irreducible] Awp wpO thenQ blockQ bodyQ ACalls stepA

theorem Arc.len {H : Hp} {p b : Nat} {S : List Ser} {L : List Ent} (h : Arc H p b S L) : p < H.length ∧ b < H.length := by
  obtain ⟨T, h1, _⟩ := h.tab
  exact ⟨(List.getElem?_eq_some_iff.1 h.hp).1, (List.getElem?_eq_some_iff.1 h1).1⟩
theorem ex_code : ∀ i e, [ex0, ex1, ex2][i]? = some e → addC exS (fillL exS ([ex0, ex1, ex2].take i)) e = 0 := by
  intro i e h
  match i with
  | 0 => cases h; exact ex_a0
  | 1 => cases h; exact ex_a1
  | 2 => cases h; exact ex_a2
  | i + 3 => cases h

set_option maxRecDepth 8000 in
set_option maxHeartbeats 8000000 in
theorem Works_ok (H : Hp) : ACalls Try.prog 6 [] H fun v K => v = bv true ∧ Grow H K := by
  have hS := Series_ok
  have hN := fun H => New_ok H exS true
  refine ACalls.of_body Try.func6 rfl (by kernel_rfl) (by rw [Try.ntmps6]; simp) ?_; rw [Try.ntmps6]
  repeat' (first | refine spD (fun _ => ?_) (fun _ => ?_) | refine spF (fun _ => ?_) (fun _ => ?_) | (apply gT; (exact rfl)) | (apply off; (exact rfl); (exact rfl)) | (apply condT; (exact rfl)) | (apply condF; (exact rfl)) | ((first | (apply stp0; (exact rfl); (exact rfl)) | (apply stpN0; (exact rfl)) | apply gT | apply condT | ((first | apply bodyQ_d0 | apply bodyQ_d1 | apply bodyQ_d2 | apply bodyQ_d3 | apply bodyQ_d4); (exact .inr rfl); (rw [Try.results6]))); (first | (focus (simp only [go_sem, ↓reduceIte, simprocAttr] <;> rfl)) | exact rfl); (first | (fail_if_success (show okD _ _ _ _ _ _ _ _ _)) | (first | exact okT | exact okN | exact okE rfl)); (first | (fail_if_success (show Bel _ _)) | (focus first | exact .val _ | (simp [oneOf, Bel_iff_tup, Bel_iff_agg, Bel_iff_rsl, Bel_iff_fn, Bel_iff_rptr, Bel_val]; done)))) | (apply calTo0; (exact rfl); (iterate 2 (simp only [go_sem, ↓reduceIte, simprocAttr]; rfl)); (first | exact hS _); (first | exact okT | exact okN | exact okE rfl)) | refine thenQ_n ?_ | refine thenQ_r ?_ | refine thenQ_e ?_ | refine blockQ_n ?_ | refine blockQ_r ?_ | refine blockQ_e ?_ | (apply blockQ_o; (exact rfl)) | refine Awp.seq ?_ | refine Awp.skip ?_ | refine Awp.block ?_ | refine reg (fun s => s == 5 || s == 6) ?_ | (apply drwE mixed (fun s => s == 5 || s == 6); (kernel_rfl)) | refine fin ?_ | refine Awp.ret ?_ | refine Awp.exit ?_ | ((first | (apply off; (exact rfl)) | apply condF); (first | (focus (simp only [go_sem, ↓reduceIte, simprocAttr] <;> rfl)) | exact rfl)))
  all_goals first | contradiction | skip
  refine cal rfl rfl rfl ?_ (show ACallV Try.prog (.fn (.func 13) []) [.rsl (sers exS) true] _ _ from hN _) ?_
  · (first | (focus (simp only [go_sem, ↓reduceIte, simprocAttr]; first | done | rfl)) | rfl)
  rintro v1 K (⟨hc, _, _⟩ | ⟨hc, p, b, rfl, hpl, hbl, hp, hb, hG⟩)
  · exact absurd ex_new hc
  have hE := Entries'_ok
  repeat' (first | refine spD (fun _ => ?_) (fun _ => ?_) | refine spF (fun _ => ?_) (fun _ => ?_) | (apply gT; (exact rfl)) | (apply off; (exact rfl); (exact rfl)) | (apply condT; (exact rfl)) | (apply condF; (exact rfl)) | ((first | (apply stp0; (exact rfl); (exact rfl)) | (apply stpN0; (exact rfl)) | apply gT | apply condT | ((first | apply bodyQ_d0 | apply bodyQ_d1 | apply bodyQ_d2 | apply bodyQ_d3 | apply bodyQ_d4); (exact .inr rfl); (rw [Try.results6]))); (first | (focus (simp only [go_sem, ↓reduceIte, simprocAttr] <;> rfl)) | exact rfl); (first | (fail_if_success (show okD _ _ _ _ _ _ _ _ _)) | (first | exact okT | exact okN | exact okE rfl)); (first | (fail_if_success (show Bel _ _)) | (focus first | exact .val _ | (simp [oneOf, Bel_iff_tup, Bel_iff_agg, Bel_iff_rsl, Bel_iff_fn, Bel_iff_rptr, Bel_val]; done)))) | (apply calTo0; (exact rfl); (iterate 2 (simp only [go_sem, ↓reduceIte, simprocAttr]; rfl)); (first | exact hE _); (first | exact okT | exact okN | exact okE rfl)) | refine thenQ_n ?_ | refine thenQ_r ?_ | refine thenQ_e ?_ | refine blockQ_n ?_ | refine blockQ_r ?_ | refine blockQ_e ?_ | (apply blockQ_o; (exact rfl)) | refine Awp.seq ?_ | refine Awp.skip ?_ | refine Awp.block ?_ | refine reg (fun s => s == 5 || s == 6) ?_ | (apply drwE mixed (fun s => s == 5 || s == 6); (kernel_rfl)) | refine fin ?_ | refine Awp.ret ?_ | refine Awp.exit ?_ | ((first | (apply off; (exact rfl)) | apply condF); (first | (focus (simp only [go_sem, ↓reduceIte, simprocAttr] <;> rfl)) | exact rfl)))
  all_goals first | contradiction | skip
  refine Awp.mono (Q := fun e T' K => e = .exit 0 ∧ T' 1 = .mptr p 0 0 ∧ T' 3 = .rsl (ents [ex0, ex1, ex2]) true ∧ Arc K p b exS (fillL exS [ex0, ex1, ex2]) ∧ Grow H K) ?_ ?_
  · refine Awp.loop (ι := Nat) (fun i T' K => i ≤ 3 ∧ (T' 1 = .mptr p 0 0 ∧ T' 3 = .rsl (ents [ex0, ex1, ex2]) true ∧ T' 4 = iv i) ∧ Arc K p b exS (fillL exS ([ex0, ex1, ex2].take i)) ∧ Grow H K) (fun i => 3 - i) 0 ?_ ?_
    · exact ⟨Nat.zero_le _, ⟨by (first | (focus (simp only [go_sem, ↓reduceIte, simprocAttr]; first | done | rfl)) | rfl), by (first | (focus (simp only [go_sem, ↓reduceIte, simprocAttr]; first | done | rfl)) | rfl), by (first | (focus (simp only [go_sem, ↓reduceIte, simprocAttr]; first | done | rfl)) | rfl)⟩, Arc.nil hp hb, hG⟩
    clear hp hb hG K
    rintro i T K ⟨hi, ⟨t1, t3, t4⟩, hA, hG⟩
    have hl3 : (ents [ex0, ex1, ex2]).length = 3 := rfl
    by_cases hil : i < 3
    · obtain ⟨e, he⟩ := nth (l := [ex0, ex1, ex2]) (i := i) hil
      have hec := ents_at he
      have hw := wsucc hil (show 3 ≤ maxLen by simp only [maxLen]; omega)
      have hil2 : (i : Int) < 3 := by omega
      have hil3 : (i : Int) < (ents [ex0, ex1, ex2]).length := by rw [hl3]; omega
      have hi0 : (0 : Int) ≤ i := by omega
      have hAdd := Add_ok K hA e
      have hft : fillL exS ([ex0, ex1, ex2].take (i + 1)) = addL exS (fillL exS ([ex0, ex1, ex2].take i)) e := by unfold fillL; rw [List.take_add_one, he, List.foldl_append]; rfl
      repeat' (first | refine spD (fun _ => ?_) (fun _ => ?_) | refine spF (fun _ => ?_) (fun _ => ?_) | (apply gT; (exact rfl)) | (apply off; (exact rfl); (exact rfl)) | (apply condT; (exact rfl)) | (apply condF; (exact rfl)) | ((first | (apply stp0; (exact rfl); (exact rfl)) | (apply stpN0; (exact rfl)) | apply gT | apply condT | ((first | apply bodyQ_d0 | apply bodyQ_d1 | apply bodyQ_d2 | apply bodyQ_d3 | apply bodyQ_d4); (exact .inr rfl); (rw [Try.results6]))); (first | (focus (simp only [go_sem, ↓reduceIte, simprocAttr, t1, t3, t4, hil3, hec, hi0, Int.toNat_natCast] <;> rfl)) | exact rfl); (first | (fail_if_success (show okD _ _ _ _ _ _ _ _ _)) | (first | exact okT | exact okN | exact okE rfl)); (first | (fail_if_success (show Bel _ _)) | (focus first | exact .val _ | (simp [oneOf, Bel_iff_tup, Bel_iff_agg, Bel_iff_rsl, Bel_iff_fn, Bel_iff_rptr, Bel_val]; done)))) | refine thenQ_n ?_ | refine thenQ_r ?_ | refine thenQ_e ?_ | refine blockQ_n ?_ | refine blockQ_r ?_ | refine blockQ_e ?_ | (apply blockQ_o; (exact rfl)) | refine Awp.seq ?_ | refine Awp.skip ?_ | refine Awp.block ?_ | refine reg (fun s => s == 5 || s == 6) ?_ | (apply drwE mixed (fun s => s == 5 || s == 6); (kernel_rfl)) | refine fin ?_ | refine Awp.ret ?_ | refine Awp.exit ?_ | ((first | (apply off; (exact rfl)) | apply condF); (first | (focus (simp only [go_sem, ↓reduceIte, simprocAttr, t1, t3, t4, hil3, hec, hi0, Int.toNat_natCast] <;> rfl)) | exact rfl)))
      all_goals first | contradiction | skip
      refine cal rfl rfl rfl ?_ (show ACallV Try.prog (.fn (.func 16) []) [.mptr p 0 0, .agg e.cs] _ _ from hAdd) ?_
      · (first | (focus (simp only [go_sem, ↓reduceIte, simprocAttr, Ent.cs]; first | done | rfl)) | rfl)
      rintro v1 K1 ⟨rfl, hA1, hl1, hk1⟩
      rw [ex_code i e he]
      have hG1 : Grow H K1 := ⟨by have := hG.len; omega, fun j hj => by rw [hk1 j (by have := hG.len; omega) (by omega)]; exact hG.old j hj⟩
      repeat' (first | refine spD (fun _ => ?_) (fun _ => ?_) | refine spF (fun _ => ?_) (fun _ => ?_) | (apply gT; (exact rfl)) | (apply off; (exact rfl); (exact rfl)) | (apply condT; (exact rfl)) | (apply condF; (exact rfl)) | ((first | (apply stp0; (exact rfl); (exact rfl)) | (apply stpN0; (exact rfl)) | apply gT | apply condT | ((first | apply bodyQ_d0 | apply bodyQ_d1 | apply bodyQ_d2 | apply bodyQ_d3 | apply bodyQ_d4); (exact .inr rfl); (rw [Try.results6]))); (first | (focus (simp only [go_sem, ↓reduceIte, simprocAttr, t1, t3, t4, hw] <;> rfl)) | exact rfl); (first | (fail_if_success (show okD _ _ _ _ _ _ _ _ _)) | (first | exact okT | exact okN | exact okE rfl)); (first | (fail_if_success (show Bel _ _)) | (focus first | exact .val _ | (simp [oneOf, Bel_iff_tup, Bel_iff_agg, Bel_iff_rsl, Bel_iff_fn, Bel_iff_rptr, Bel_val]; done)))) | refine thenQ_n ?_ | refine thenQ_r ?_ | refine thenQ_e ?_ | refine blockQ_n ?_ | refine blockQ_r ?_ | refine blockQ_e ?_ | (apply blockQ_o; (exact rfl)) | refine Awp.seq ?_ | refine Awp.skip ?_ | refine Awp.block ?_ | refine reg (fun s => s == 5 || s == 6) ?_ | (apply drwE mixed (fun s => s == 5 || s == 6); (kernel_rfl)) | refine fin ?_ | refine Awp.ret ?_ | refine Awp.exit ?_ | ((first | (apply off; (exact rfl)) | apply condF); (first | (focus (simp only [go_sem, ↓reduceIte, simprocAttr, t1, t3, t4, hw] <;> rfl)) | exact rfl)))
      all_goals first | contradiction | skip
      exact ⟨i + 1, ⟨by omega, ⟨by (first | (focus (simp only [go_sem, ↓reduceIte, simprocAttr, t1]; first | done | rfl)) | rfl), by (first | (focus (simp only [go_sem, ↓reduceIte, simprocAttr, t3]; first | done | rfl)) | rfl), by (first | (focus (simp only [go_sem, ↓reduceIte, simprocAttr]; first | done | rfl)) | rfl)⟩, by rw [hft]; exact hA1, hG1⟩, by omega⟩
    · have hieq : i = 3 := by omega
      subst hieq
      have hil3 : ¬ (((3 : Nat) : Int) < ((ents [ex0, ex1, ex2]).length : Int)) := by rw [hl3]; omega
      have hil4 : ¬ ((3 : Int) < ((ents [ex0, ex1, ex2]).length : Int)) := by rw [hl3]; omega
      repeat' (first | refine spD (fun _ => ?_) (fun _ => ?_) | refine spF (fun _ => ?_) (fun _ => ?_) | (apply gT; (exact rfl)) | (apply off; (exact rfl); (exact rfl)) | (apply condT; (exact rfl)) | (apply condF; (exact rfl)) | ((first | (apply stp0; (exact rfl); (exact rfl)) | (apply stpN0; (exact rfl)) | apply gT | apply condT | ((first | apply bodyQ_d0 | apply bodyQ_d1 | apply bodyQ_d2 | apply bodyQ_d3 | apply bodyQ_d4); (exact .inr rfl); (rw [Try.results6]))); (first | (focus (simp only [go_sem, ↓reduceIte, simprocAttr, t3, t4, hil3, hil4] <;> rfl)) | exact rfl); (first | (fail_if_success (show okD _ _ _ _ _ _ _ _ _)) | (first | exact okT | exact okN | exact okE rfl)); (first | (fail_if_success (show Bel _ _)) | (focus first | exact .val _ | (simp [oneOf, Bel_iff_tup, Bel_iff_agg, Bel_iff_rsl, Bel_iff_fn, Bel_iff_rptr, Bel_val]; done)))) | refine thenQ_n ?_ | refine thenQ_r ?_ | refine thenQ_e ?_ | refine blockQ_n ?_ | refine blockQ_r ?_ | refine blockQ_e ?_ | (apply blockQ_o; (exact rfl)) | refine Awp.seq ?_ | refine Awp.skip ?_ | refine Awp.block ?_ | refine reg (fun s => s == 5 || s == 6) ?_ | (apply drwE mixed (fun s => s == 5 || s == 6); (kernel_rfl)) | refine fin ?_ | refine Awp.ret ?_ | refine Awp.exit ?_ | ((first | (apply off; (exact rfl)) | apply condF); (first | (focus (simp only [go_sem, ↓reduceIte, simprocAttr, t3, t4, hil3, hil4] <;> rfl)) | exact rfl)))
      all_goals first | contradiction | skip
      exact ⟨rfl, by (first | (focus (simp only [go_sem, ↓reduceIte, simprocAttr, t1]; first | done | rfl)) | rfl), by (first | (focus (simp only [go_sem, ↓reduceIte, simprocAttr, t3]; first | done | rfl)) | rfl), hA, hG⟩
  clear hp hb hG K
  rintro ex T K ⟨rfl, t1, t3, hA, hG⟩
  have hQ := Query_ok K
  repeat' (first | refine spD (fun _ => ?_) (fun _ => ?_) | refine spF (fun _ => ?_) (fun _ => ?_) | (apply gT; (exact rfl)) | (apply off; (exact rfl); (exact rfl)) | (apply condT; (exact rfl)) | (apply condF; (exact rfl)) | ((first | (apply stp0; (exact rfl); (exact rfl)) | (apply stpN0; (exact rfl)) | apply gT | apply condT | ((first | apply bodyQ_d0 | apply bodyQ_d1 | apply bodyQ_d2 | apply bodyQ_d3 | apply bodyQ_d4); (exact .inr rfl); (rw [Try.results6]))); (first | (focus (simp only [go_sem, ↓reduceIte, simprocAttr, t1, t3] <;> rfl)) | exact rfl); (first | (fail_if_success (show okD _ _ _ _ _ _ _ _ _)) | (first | exact okT | exact okN | exact okE rfl)); (first | (fail_if_success (show Bel _ _)) | (focus first | exact .val _ | (simp [oneOf, Bel_iff_tup, Bel_iff_agg, Bel_iff_rsl, Bel_iff_fn, Bel_iff_rptr, Bel_val]; done)))) | refine thenQ_n ?_ | refine thenQ_r ?_ | refine thenQ_e ?_ | refine blockQ_n ?_ | refine blockQ_r ?_ | refine blockQ_e ?_ | (apply blockQ_o; (exact rfl)) | refine Awp.seq ?_ | refine Awp.skip ?_ | refine Awp.block ?_ | refine reg (fun s => s == 5 || s == 6) ?_ | (apply drwE mixed (fun s => s == 5 || s == 6); (kernel_rfl)) | refine fin ?_ | refine Awp.ret ?_ | refine Awp.exit ?_ | ((first | (apply off; (exact rfl)) | apply condF); (first | (focus (simp only [go_sem, ↓reduceIte, simprocAttr, t1, t3] <;> rfl)) | exact rfl)))
  all_goals first | contradiction | skip
  refine cal rfl rfl rfl ?_ (show ACallV Try.prog (.fn (.func 17) []) [iv 1] _ _ from hQ) ?_
  · (first | (focus (simp only [go_sem, ↓reduceIte, simprocAttr]; first | done | rfl)) | rfl)
  rintro v1 K1 ⟨rfl, hG1⟩
  have hlen : (fillL exS [ex0, ex1, ex2]).length ≤ 1024 := by rw [ex_len]; omega
  have hA1 := hA.grow hG1
  have hM := Mean_ok K1 hA1 (fill_bnd ex_new _) hlen exQ
  rw [ex_mean] at hM
  repeat' (first | refine spD (fun _ => ?_) (fun _ => ?_) | refine spF (fun _ => ?_) (fun _ => ?_) | (apply gT; (exact rfl)) | (apply off; (exact rfl); (exact rfl)) | (apply condT; (exact rfl)) | (apply condF; (exact rfl)) | ((first | (apply stp0; (exact rfl); (exact rfl)) | (apply stpN0; (exact rfl)) | apply gT | apply condT | ((first | apply bodyQ_d0 | apply bodyQ_d1 | apply bodyQ_d2 | apply bodyQ_d3 | apply bodyQ_d4); (exact .inr rfl); (rw [Try.results6]))); (first | (focus (simp only [go_sem, ↓reduceIte, simprocAttr, t1, t3] <;> rfl)) | exact rfl); (first | (fail_if_success (show okD _ _ _ _ _ _ _ _ _)) | (first | exact okT | exact okN | exact okE rfl)); (first | (fail_if_success (show Bel _ _)) | (focus first | exact .val _ | (simp [oneOf, Bel_iff_tup, Bel_iff_agg, Bel_iff_rsl, Bel_iff_fn, Bel_iff_rptr, Bel_val]; done)))) | refine thenQ_n ?_ | refine thenQ_r ?_ | refine thenQ_e ?_ | refine blockQ_n ?_ | refine blockQ_r ?_ | refine blockQ_e ?_ | (apply blockQ_o; (exact rfl)) | refine Awp.seq ?_ | refine Awp.skip ?_ | refine Awp.block ?_ | refine reg (fun s => s == 5 || s == 6) ?_ | (apply drwE mixed (fun s => s == 5 || s == 6); (kernel_rfl)) | refine fin ?_ | refine Awp.ret ?_ | refine Awp.exit ?_ | ((first | (apply off; (exact rfl)) | apply condF); (first | (focus (simp only [go_sem, ↓reduceIte, simprocAttr, t1, t3] <;> rfl)) | exact rfl)))
  all_goals first | contradiction | skip
  refine cal rfl rfl rfl ?_ (show ACallV Try.prog (.fn (.func 10) []) [.mptr p 0 0, .agg exQ.cs] _ _ from hM) ?_
  · (first | (focus (simp only [go_sem, ↓reduceIte, simprocAttr, t1]; first | done | rfl)) | rfl)
  rintro v1 K2 ⟨hG2, rfl⟩
  have hA2 := (hA1.grow hG2).grow ((Grow.refl K2).app [AObj.cells [[iv 50, iv 252]] 29])
  have hC := Counts_ok _ hA2 hlen 0 10 20
  rw [ex_cnt] at hC
  repeat' (first | refine spD (fun _ => ?_) (fun _ => ?_) | refine spF (fun _ => ?_) (fun _ => ?_) | (apply gT; (exact rfl)) | (apply off; (exact rfl); (exact rfl)) | (apply condT; (exact rfl)) | (apply condF; (exact rfl)) | ((first | (apply stp0; (exact rfl); (exact rfl)) | (apply stpN0; (exact rfl)) | apply gT | apply condT | ((first | apply bodyQ_d0 | apply bodyQ_d1 | apply bodyQ_d2 | apply bodyQ_d3 | apply bodyQ_d4); (exact .inr rfl); (rw [Try.results6]))); (first | (focus (simp only [go_sem, ↓reduceIte, simprocAttr, t1, t3] <;> rfl)) | exact rfl); (first | (fail_if_success (show okD _ _ _ _ _ _ _ _ _)) | (first | exact okT | exact okN | exact okE rfl)); (first | (fail_if_success (show Bel _ _)) | (focus first | exact .val _ | (simp [oneOf, Bel_iff_tup, Bel_iff_agg, Bel_iff_rsl, Bel_iff_fn, Bel_iff_rptr, Bel_val]; done)))) | refine thenQ_n ?_ | refine thenQ_r ?_ | refine thenQ_e ?_ | refine blockQ_n ?_ | refine blockQ_r ?_ | refine blockQ_e ?_ | (apply blockQ_o; (exact rfl)) | refine Awp.seq ?_ | refine Awp.skip ?_ | refine Awp.block ?_ | refine reg (fun s => s == 5 || s == 6) ?_ | (apply drwE mixed (fun s => s == 5 || s == 6); (kernel_rfl)) | refine fin ?_ | refine Awp.ret ?_ | refine Awp.exit ?_ | ((first | (apply off; (exact rfl)) | apply condF); (first | (focus (simp only [go_sem, ↓reduceIte, simprocAttr, t1, t3] <;> rfl)) | exact rfl)))
  all_goals first | contradiction | skip
  refine cal rfl rfl rfl ?_ (show ACallV Try.prog (.fn (.func 8) []) [.mptr p 0 0, iv 0, iv 10, iv 20] _ _ from hC) ?_
  · (first | (focus (simp only [go_sem, ↓reduceIte, simprocAttr, t1]; first | done | rfl)) | rfl)
  rintro v1 K3 ⟨rfl, hG3⟩
  have a5 := hG3.get (get_new K2 (AObj.cells [[iv 50, iv 252]] 29))
  have hz : (ents [ex0, ex1, ex2])[0]? = some [iv 0, iv 10, iv 0, iv 20, iv 1, iv 0, iv 100, iv 104, .val (.string ⟨#[114, 97, 119]⟩)] := rfl
  have hz2 : (0 : Int) < ((ents [ex0, ex1, ex2]).length : Int) := by decide
  simp only [Ent.av, Ent.cs, ex0, exRaw]
  have a5' := (held a5).2.1 [AObj.cells [[iv 0, iv 10, iv 0, iv 20, iv 1, iv 0, iv 100, iv 104, .val (.string ⟨#[114, 97, 119]⟩)]] 31]
  have a6 := get_new K3 (AObj.cells [[iv 0, iv 10, iv 0, iv 20, iv 1, iv 0, iv 100, iv 104, .val (.string ⟨#[114, 97, 119]⟩)]] 31)
  have w0 : IntKind.i64.wrap 0 = 0 := by rw [w64 (by omega) (by omega)]
  have bs : ((⟨#[114, 97, 119]⟩ : ByteArray) == ⟨#[114, 97, 119]⟩) = true := byteArr_beq _
  have hG4 : Grow H (K3 ++ [AObj.cells [[iv 0, iv 10, iv 0, iv 20, iv 1, iv 0, iv 100, iv 104, .val (.string ⟨#[114, 97, 119]⟩)]] 31]) := ((((hG.trans hG1).trans hG2).trans ((Grow.refl K2).app _)).trans hG3).app _
  repeat' (first | refine spD (fun _ => ?_) (fun _ => ?_) | refine spF (fun _ => ?_) (fun _ => ?_) | (apply gT; (exact rfl)) | (apply off; (exact rfl); (exact rfl)) | (apply condT; (exact rfl)) | (apply condF; (exact rfl)) | ((first | (apply stp0; (exact rfl); (exact rfl)) | (apply stpN0; (exact rfl)) | apply gT | apply condT); (first | (focus (simp only [go_sem, ↓reduceIte, simprocAttr, t1, t3, a5', a6, hz, hz2, w0, bs, beq_self_eq_true] <;> rfl)) | exact rfl); (first | (fail_if_success (show okD _ _ _ _ _ _ _ _ _)) | (first | exact okT | exact okN | exact okE rfl))) | refine thenQ_n ?_ | refine thenQ_r ?_ | refine thenQ_e ?_ | refine blockQ_n ?_ | refine blockQ_r ?_ | refine blockQ_e ?_ | (apply blockQ_o; (exact rfl)) | refine Awp.seq ?_ | refine Awp.skip ?_ | refine Awp.block ?_ | refine reg (fun s => s == 5 || s == 6) ?_ | (apply drwE mixed (fun s => s == 5 || s == 6); (kernel_rfl)) | refine fin ?_ | refine Awp.ret ?_ | refine Awp.exit ?_ | ((first | (apply off; (exact rfl)) | apply condF); (first | (focus (simp only [go_sem, ↓reduceIte, simprocAttr, t1, t3, a5', a6, hz, hz2, w0, bs, beq_self_eq_true] <;> rfl)) | exact rfl)))
  all_goals first | contradiction | skip
  exact bodyQ_mk (vs := [bv true]) (.inr rfl) (by rw [Try.results6]; first | (simp only [go_sem, ↓reduceIte, simprocAttr]; done) | (simp only [go_sem, ↓reduceIte, simprocAttr]; rfl)) (Vs.refl _ _ _) ⟨rfl, hG4⟩

end Go.Proofs.Ytdmgljlabigljaa.Ab
