/- Best of the document: the best choice. -/
import Derived.Test.YtlhchnnfgppneaaRI
import Derived.Test.YtlhchnnfgppneaaQ3
namespace Go.Proofs.Ytlhchnnfgppneaa.Ab
open Go Go.RowKit Go.Proofs
set_option linter.unusedSimpArgs false
set_option linter.unusedVariables false
attribute [local irreducible] Awp wpO thenQ blockQ bodyQ ACalls stepA

set_option maxRecDepth 8000 in
set_option maxHeartbeats 8000000 in
theorem best88 {l : List Pr} {ex : Bool} {room : Int} (hok : ∀ p ∈ l, p.ok) (hl : l.length ≤ 11) (hr : 0 ≤ room ∧ room ≤ 16777216) : ∀ (m k : Nat) (c : Ch) (Lc : List Int), l.length - k = m → Sta l k c Lc → c.size ≤ room → ∀ (H : Hp) (o : Nat), H[o]? = some (.cells (ints Lc) 3) →
    ACalls Try.prog 88 [.rsl (prs l) ex, iv room, .agg [.msl o 0 Lc.length, iv c.worth, iv c.size]] H (DfsP l.length (Top (ext l room k c)) H o) := by
  intro m
  induction m using Nat.strongRecOn with
  | ind m ih =>
    intro k c Lc hm hS hc H o ho
    have hoH := (List.getElem?_eq_some_iff.1 ho).1
    refine ACalls.of_body Try.func88 rfl (by kernel_rfl) (by rw [Try.ntmps88]; simp) ?_; rw [Try.ntmps88]
    repeat' ((fail_if_success (apply stopR (id := 1))); (fail_if_success (apply stopS (id := 1))); first | refine spD (fun _ => ?_) (fun _ => ?_) | refine spF (fun _ => ?_) (fun _ => ?_) | (apply gT; (exact rfl)) | (apply off; (exact rfl); (exact rfl)) | (apply condT; (exact rfl)) | (apply condF; (exact rfl)) | ((first | (apply stp0; (exact rfl); (exact rfl)) | (apply stpN0; (exact rfl)) | apply gT | apply condT | ((first | apply bodyQ_d0 | apply bodyQ_d1 | apply bodyQ_d2 | apply bodyQ_d3 | apply bodyQ_d4); (exact .inr rfl); (rw [Try.results88]))); (first | (focus (simp only [go_sem, ↓reduceIte, simprocAttr] <;> rfl)) | exact rfl); (first | (fail_if_success (show okD _ _ _ _ _ _ _ _ _)) | (first | exact okT | exact okN | exact okE rfl)); (first | (fail_if_success (show Bel _ _)) | (focus first | exact .val _ | (simp [oneOf, Bel_iff_tup, Bel_iff_agg, Bel_iff_rsl, Bel_iff_fn, Bel_iff_rptr, Bel_val]; done)))) | refine thenQ_n ?_ | refine thenQ_r ?_ | refine thenQ_e ?_ | refine blockQ_n ?_ | refine blockQ_r ?_ | refine blockQ_e ?_ | (apply blockQ_o; (exact rfl)) | refine Awp.seq ?_ | refine Awp.skip ?_ | refine Awp.block ?_ | refine reg (fun s => s == 5 || s == 6 || s == 7 || s == 10) ?_ | (apply drwE mixed (fun s => s == 5 || s == 6 || s == 7 || s == 10); (kernel_rfl)) | refine fin ?_ | refine Awp.ret ?_ | refine Awp.exit ?_ | ((first | (apply off; (exact rfl)) | apply condF); (first | (focus (simp only [go_sem, ↓reduceIte, simprocAttr] <;> rfl)) | exact rfl)))
    all_goals first | contradiction | skip
    refine Awp.withT (fun T' => T' 0 = .rsl (prs l) ex ∧ T' 1 = iv room ∧ T' 5 = .mptr H.length 0 0 ∧ T' 6 = .mptr (H.length + 1) 0 0) ⟨by (first | (focus (simp only [go_sem, ↓reduceIte, simprocAttr]; first | done | rfl)) | rfl), by (first | (focus (simp only [go_sem, ↓reduceIte, simprocAttr]; first | done | rfl)) | rfl), by (first | (focus (simp only [go_sem, ↓reduceIte, simprocAttr]; first | done | rfl)) | rfl), by (first | (focus (simp only [go_sem, ↓reduceIte, simprocAttr, List.length_append, List.length_singleton]; first | done | rfl)) | rfl)⟩ ?_
    rintro T ⟨t0, t1, t5, t6⟩
    refine Awp.frzCell (s := H.length) (b := o) (len := Lc.length) (k := 0) (es := ints Lc) (e0 := [.msl o 0 Lc.length, iv c.worth, iv c.size]) (t := 153) (t' := 3) (by omega) ?_ rfl ?_ (by rw [ints_len]; exact Nat.le_refl _) ?_
    · first | exact get_at2 _ _ _ | (rw [List.getElem?_append_left (by simp)]; exact get_new _ _)
    · rw [List.getElem?_append_left (by rw [List.length_append]; omega), List.getElem?_append_left hoH]; exact ho
    rw [List.take_of_length_le (by rw [ints_len]; exact Nat.le_refl _)]
    obtain ⟨H2, hH2⟩ : ∃ H2 : Hp, H2 = ((H ++ [AObj.cells [[.msl o 0 Lc.length, iv c.worth, iv c.size]] 153] ++ [AObj.cells [[nilS, iv 0, iv 0]] 153]).set o .dead).set H.length (AObj.cells [[.rsl (ints Lc) false, iv c.worth, iv c.size]] 153) := ⟨_, rfl⟩
    have hB : H2[H.length]? = some (.cells [[.rsl (ints Lc) false, iv c.worth, iv c.size]] 153) := by rw [hH2, List.getElem?_set_self (by simp)]
    have hR : H2[H.length + 1]? = some (.cells [[nilS, iv 0, iv 0]] 153) := by
      rw [hH2, List.getElem?_set_ne (by omega), List.getElem?_set_ne (by omega), List.getElem?_append_right (by simp)]
      simp
    have hlow : ∀ j, j < H.length → j ≠ o → H2[j]? = H[j]? := fun j hj hne => by
      rw [hH2, List.getElem?_set_ne (by omega), List.getElem?_set_ne (Ne.symm hne), List.getElem?_append_left (by rw [List.length_append]; omega), List.getElem?_append_left hj]
    rw [hH2] at hB hR hlow
    clear hH2 H2
    refine dfsBody (lo := H.length) (R := H.length + 1) hok hl hS hc hr t0 t1 t5 t6 (by omega) (Nat.le_refl _) (Nat.le_succ _) hB hR ?_ ?_
    · intro i p hki hp hfit K o2 ho2
      have hil := (List.getElem?_eq_some_iff.1 hp).1
      have h2 := ih (l.length - (i + 1)) (by omega) (i + 1) (c.add (23 - i) p) (Lc ++ [(i : Int)]) rfl (hS.more hl hki hp (hok p (List.mem_of_getElem? hp))) hfit K o2 ho2
      rw [List.length_append, List.length_singleton] at h2
      exact h2
    · intro T' K O x hTop t6' t7' hRO hR' hO' hlen hlow'
      have hO2 := hO'
      simp only [zcs] at hO2
      have hRk := fun X => (heldS hR').1 X
      simp only [tlD, Option.getD_some]
      repeat' (first | refine spD (fun _ => ?_) (fun _ => ?_) | refine spF (fun _ => ?_) (fun _ => ?_) | (apply gT; (exact rfl)) | (apply off; (exact rfl); (exact rfl)) | (apply condT; (exact rfl)) | (apply condF; (exact rfl)) | ((first | (apply stp0; (exact rfl); (exact rfl)) | (apply stpN0; (exact rfl)) | apply gT | apply condT); (first | (focus (simp only [go_sem, ↓reduceIte, simprocAttr, t6', t7', hO2, hR'] <;> rfl)) | exact rfl); (first | (fail_if_success (show okD _ _ _ _ _ _ _ _ _)) | (first | exact okT | exact okN | exact okE rfl))) | refine thenQ_n ?_ | refine thenQ_r ?_ | refine thenQ_e ?_ | refine blockQ_n ?_ | refine blockQ_r ?_ | refine blockQ_e ?_ | (apply blockQ_o; (exact rfl)) | refine Awp.seq ?_ | refine Awp.skip ?_ | refine Awp.block ?_ | refine reg (fun s => s == 6 || s == 7 || s == 10) ?_ | (apply drwE mixed (fun s => s == 6 || s == 7 || s == 10); (kernel_rfl)) | refine fin ?_ | refine Awp.ret ?_ | refine Awp.exit ?_ | ((first | (apply off; (exact rfl)) | apply condF); (first | (focus (simp only [go_sem, ↓reduceIte, simprocAttr, t6', t7', hO2, hR'] <;> rfl)) | exact rfl)))
      all_goals first | contradiction | skip
      refine bodyQ_mk (vs := [.agg (zcs l.length x)]) (.inr rfl) (by rw [Try.results88]; first | (simp only [go_sem, ↓reduceIte, simprocAttr, t6', hRk, zcs]; done) | (simp only [go_sem, ↓reduceIte, simprocAttr, t6', hRk, zcs]; rfl)) (Vs.refl _ _ _) ⟨⟨x, hTop, rfl⟩, ?_, fun j hj hne => ?_⟩
      · rw [List.length_set]; exact hlen
      · rw [List.getElem?_set_ne (by omega)]; exact (hlow' j hj).trans (hlow j hj hne)

set_option maxRecDepth 8000 in
set_option maxHeartbeats 8000000 in
theorem top88 {l : List Pr} {ex : Bool} {room : Int} (hok : ∀ p ∈ l, p.ok) (hl : l.length ≤ 11) (hr : 0 ≤ room ∧ room ≤ 16777216) (H : Hp) :
    ACalls Try.prog 88 [.rsl (prs l) ex, iv room, .agg [nilS, iv 0, iv 0]] H (fun v K => v = .agg (zcs l.length (topL l room)) ∧ Grow H K) := by
  have hS := Sta.start hl
  refine ACalls.of_body Try.func88 rfl (by kernel_rfl) (by rw [Try.ntmps88]; simp) ?_; rw [Try.ntmps88]
  repeat' ((fail_if_success (apply stopR (id := 1))); (fail_if_success (apply stopS (id := 1))); first | refine spD (fun _ => ?_) (fun _ => ?_) | refine spF (fun _ => ?_) (fun _ => ?_) | (apply gT; (exact rfl)) | (apply off; (exact rfl); (exact rfl)) | (apply condT; (exact rfl)) | (apply condF; (exact rfl)) | ((first | (apply stp0; (exact rfl); (exact rfl)) | (apply stpN0; (exact rfl)) | apply gT | apply condT | ((first | apply bodyQ_d0 | apply bodyQ_d1 | apply bodyQ_d2 | apply bodyQ_d3 | apply bodyQ_d4); (exact .inr rfl); (rw [Try.results88]))); (first | (focus (simp only [go_sem, ↓reduceIte, simprocAttr] <;> rfl)) | exact rfl); (first | (fail_if_success (show okD _ _ _ _ _ _ _ _ _)) | (first | exact okT | exact okN | exact okE rfl)); (first | (fail_if_success (show Bel _ _)) | (focus first | exact .val _ | (simp [oneOf, Bel_iff_tup, Bel_iff_agg, Bel_iff_rsl, Bel_iff_fn, Bel_iff_rptr, Bel_val]; done)))) | refine thenQ_n ?_ | refine thenQ_r ?_ | refine thenQ_e ?_ | refine blockQ_n ?_ | refine blockQ_r ?_ | refine blockQ_e ?_ | (apply blockQ_o; (exact rfl)) | refine Awp.seq ?_ | refine Awp.skip ?_ | refine Awp.block ?_ | refine reg (fun s => s == 5 || s == 6 || s == 7 || s == 10) ?_ | (apply drwE mixed (fun s => s == 5 || s == 6 || s == 7 || s == 10); (kernel_rfl)) | refine fin ?_ | refine Awp.ret ?_ | refine Awp.exit ?_ | ((first | (apply off; (exact rfl)) | apply condF); (first | (focus (simp only [go_sem, ↓reduceIte, simprocAttr] <;> rfl)) | exact rfl)))
  all_goals first | contradiction | skip
  refine Awp.withT (fun T' => T' 0 = .rsl (prs l) ex ∧ T' 1 = iv room ∧ T' 5 = .mptr H.length 0 0 ∧ T' 6 = .mptr (H.length + 1) 0 0) ⟨by (first | (focus (simp only [go_sem, ↓reduceIte, simprocAttr]; first | done | rfl)) | rfl), by (first | (focus (simp only [go_sem, ↓reduceIte, simprocAttr]; first | done | rfl)) | rfl), by (first | (focus (simp only [go_sem, ↓reduceIte, simprocAttr]; first | done | rfl)) | rfl), by (first | (focus (simp only [go_sem, ↓reduceIte, simprocAttr, List.length_append, List.length_singleton]; first | done | rfl)) | rfl)⟩ ?_
  rintro T ⟨t0, t1, t5, t6⟩
  refine Awp.frzCellNil (s := H.length) (k := 0) (e0 := [nilS, iv 0, iv 0]) (t := 153) ?_ rfl ?_
  · first | exact get_at2 _ _ _ | (rw [List.getElem?_append_left (by simp)]; exact get_new _ _)
  obtain ⟨H2, hH2⟩ : ∃ H2 : Hp, H2 = (H ++ [AObj.cells [[nilS, iv 0, iv 0]] 153] ++ [AObj.cells [[nilS, iv 0, iv 0]] 153]).set H.length (AObj.cells [[.rsl (ints []) false, iv c00.worth, iv c00.size]] 153) := ⟨_, rfl⟩
  have hB : H2[H.length]? = some (.cells [[.rsl (ints []) false, iv c00.worth, iv c00.size]] 153) := by rw [hH2, List.getElem?_set_self (by simp)]
  have hR : H2[H.length + 1]? = some (.cells [[nilS, iv 0, iv 0]] 153) := by
    rw [hH2, List.getElem?_set_ne (by omega), List.getElem?_append_right (by simp)]
    simp
  have hlow : ∀ j, j < H.length → H2[j]? = H[j]? := fun j hj => by
    rw [hH2, List.getElem?_set_ne (by omega), List.getElem?_append_left (by rw [List.length_append]; omega), List.getElem?_append_left hj]
  rw [hH2] at hB hR hlow
  clear hH2 H2
  refine dfsBody (lo := H.length) (R := H.length + 1) (k := 0) (c := c00) (Lc := []) hok hl hS hr.1 hr t0 t1 t5 t6 (by omega) (Nat.le_refl _) (Nat.le_succ _) hB hR ?_ ?_
  · intro i p hki hp hfit K o2 ho2
    have h2 := best88 (ex := ex) hok hl hr (l.length - (i + 1)) (i + 1) (c00.add (23 - i) p) ([] ++ [(i : Int)]) rfl (hS.more hl hki hp (hok p (List.mem_of_getElem? hp))) hfit K o2 ho2
    exact h2
  · intro T' K O x hTop t6' t7' hRO hR' hO' hlen hlow'
    have hx : topL l room = x := topL_eq (hTop.congr fun y => by unfold ext fitA; rw [List.drop_zero])
    have hO2 := hO'
    simp only [zcs] at hO2
    have hRk := fun X => (heldS hR').1 X
    simp only [tlD, Option.getD_some]
    repeat' (first | refine spD (fun _ => ?_) (fun _ => ?_) | refine spF (fun _ => ?_) (fun _ => ?_) | (apply gT; (exact rfl)) | (apply off; (exact rfl); (exact rfl)) | (apply condT; (exact rfl)) | (apply condF; (exact rfl)) | ((first | (apply stp0; (exact rfl); (exact rfl)) | (apply stpN0; (exact rfl)) | apply gT | apply condT); (first | (focus (simp only [go_sem, ↓reduceIte, simprocAttr, t6', t7', hO2, hR'] <;> rfl)) | exact rfl); (first | (fail_if_success (show okD _ _ _ _ _ _ _ _ _)) | (first | exact okT | exact okN | exact okE rfl))) | refine thenQ_n ?_ | refine thenQ_r ?_ | refine thenQ_e ?_ | refine blockQ_n ?_ | refine blockQ_r ?_ | refine blockQ_e ?_ | (apply blockQ_o; (exact rfl)) | refine Awp.seq ?_ | refine Awp.skip ?_ | refine Awp.block ?_ | refine reg (fun s => s == 6 || s == 7 || s == 10) ?_ | (apply drwE mixed (fun s => s == 6 || s == 7 || s == 10); (kernel_rfl)) | refine fin ?_ | refine Awp.ret ?_ | refine Awp.exit ?_ | ((first | (apply off; (exact rfl)) | apply condF); (first | (focus (simp only [go_sem, ↓reduceIte, simprocAttr, t6', t7', hO2, hR'] <;> rfl)) | exact rfl)))
    all_goals first | contradiction | skip
    refine bodyQ_mk (vs := [.agg (zcs l.length x)]) (.inr rfl) (by rw [Try.results88]; first | (simp only [go_sem, ↓reduceIte, simprocAttr, t6', hRk, zcs]; done) | (simp only [go_sem, ↓reduceIte, simprocAttr, t6', hRk, zcs]; rfl)) (Vs.refl _ _ _) ⟨by rw [hx]; rfl, ?_, fun j hj => ?_⟩
    · rw [List.length_set]; exact hlen
    · rw [List.getElem?_set_ne (by omega)]; exact (hlow' j hj).trans (hlow j hj)

end Go.Proofs.Ytlhchnnfgppneaa.Ab
