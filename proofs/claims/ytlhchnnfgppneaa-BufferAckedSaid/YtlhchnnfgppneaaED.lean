/- Inboxes: Records, Acks. -/
import Derived.Test.YtlhchnnfgppneaaEC
import Derived.Test.YtlhchnnfgppneaaM1
namespace Go.Proofs.Ytlhchnnfgppneaa.Ab
open Go Go.RowKit Go.Proofs
set_option linter.unusedSimpArgs false
set_option linter.unusedVariables false
attribute [local irreducible] Awp wpO thenQ blockQ bodyQ ACalls stepA

def its (R : List Item) : List (List AV) := R.map Item.cs
theorem its_len (R : List Item) : (its R).length = R.length := by simp [its]
theorem its_at {R : List Item} {i : Nat} {r : Item} (h : R[i]? = some r) : (its R)[i]? = some [iv r.id, iv r.cls, iv r.made, iv r.size, iv r.pk] := nthMap Item.cs h
theorem its_five (R : List Item) : ∀ e ∈ its R, e.length = 5 := by intro e he; obtain ⟨r, _, rfl⟩ := List.mem_map.1 he; rfl
theorem its_plain (R : List Item) : Plain (its R) := by
  intro e he a ha
  obtain ⟨r, _, rfl⟩ := List.mem_map.1 he
  simp only [Item.cs, List.mem_cons, List.not_mem_nil, or_false] at ha
  rcases ha with rfl | rfl | rfl | rfl | rfl <;> exact ⟨_, rfl⟩
theorem its_succ {R : List Item} {i : Nat} {r : Item} (h : R[i]? = some r) : its (R.take (i + 1)) = its (R.take i) ++ [[iv r.id, iv r.cls, iv r.made, iv r.size, iv r.pk]] := by
  rw [List.take_add_one, h]; simp [its, Item.cs]

theorem sortS_ids {ks : List Int} {R : List Item} (hp : ks.Perm (idsR R)) (hs : srtR R) : sortS ks = idsR R := by
  refine List.Perm.eq_of_pairwise (le := fun a b => a ≤ b) (fun a b _ _ h1 h2 => Int.le_antisymm h1 h2) (sortS_pair ks) (hs.ids.imp fun h => by omega) ((sortS_perm ks).trans hp)

set_option maxRecDepth 8000 in
theorem keysX (H : Hp) (m : Nat) : CallsTo Try.prog 77 [.mp m] H (.fn (.func 105) [.mptr H.length 0 0]) (H ++ [.cells [[.mp m]] 40]) := by
  refine ACalls.of_body Try.func77 rfl (by kernel_rfl) (by rw [Try.ntmps77]; simp) ?_; rw [Try.ntmps77]
  repeat' (first | refine spD (fun _ => ?_) (fun _ => ?_) | refine spF (fun _ => ?_) (fun _ => ?_) | (apply gT; (exact rfl)) | (apply off; (exact rfl); (exact rfl)) | (apply condT; (exact rfl)) | (apply condF; (exact rfl)) | ((first | (apply stp0; (exact rfl); (exact rfl)) | (apply stpN0; (exact rfl)) | apply gT | apply condT); (first | (focus (simp only [go_sem, ↓reduceIte, simprocAttr] <;> rfl)) | exact rfl); (first | (fail_if_success (show okD _ _ _ _ _ _ _ _ _)) | (first | exact okT | exact okN | exact okE rfl))) | refine thenQ_n ?_ | refine thenQ_r ?_ | refine thenQ_e ?_ | refine blockQ_n ?_ | refine blockQ_r ?_ | refine blockQ_e ?_ | (apply blockQ_o; (exact rfl)) | refine Awp.seq ?_ | refine Awp.skip ?_ | refine Awp.block ?_ | refine reg (fun s => s == 1) ?_ | (apply drwE mixed (fun s => s == 1); (kernel_rfl)) | refine fin ?_ | refine Awp.ret ?_ | refine Awp.exit ?_ | ((first | (apply off; (exact rfl)) | apply condF); (first | (focus (simp only [go_sem, ↓reduceIte, simprocAttr] <;> rfl)) | exact rfl)))
  all_goals first | contradiction | (exfalso; omega) | skip
  exact bodyQ_mk (vs := [.fn (.func 105) [.mptr H.length 0 0]]) (.inr rfl) (by rw [Try.results77]; simp only [go_sem, ↓reduceIte, simprocAttr]) (Vs.refl _ _ _) ⟨rfl, rfl⟩

set_option maxRecDepth 8000 in
set_option maxHeartbeats 4000000 in
theorem recordsX {H : Hp} {m : Nat} {R : List Item} (hX : Ibx H m R) (hl : R.length ≤ 300) : CallsTo Try.prog 44 [.rptr [.mp m] 0] H (.rsl (its R) false) H := by
  obtain ⟨kr, hm, hk⟩ := hX.at_
  have hv := fun H => validX H m
  have hky := keysX H m
  have hb1 := get_new H (.cells [[.mp m]] 40)
  have hm1 := (held hm).2.1 [.cells [[.mp m]] 40]
  have hpm := mapKeys hk hX.srt
  have hlen := mapLen hk hX.srt
  have hso := sortedA (H ++ [.cells [[.mp m]] 40]) H.length m 40 (ents kr) (kr.map (·.1)) hb1 hm1 (by simp [ents]) (fun k hk => by
    obtain ⟨r, hr, rfl⟩ := List.mem_map.1 (hpm.mem_iff.1 hk)
    have := hX.ok r hr
    simp only [Item.ok] at this
    omega) (by rw [List.length_map, hlen]; omega)
  have hse := sortS_ids hpm hX.srt
  have hG0 := (Grow.refl H).app [.cells [[.mp m]] 40]
  cases hR : R with
  | nil =>
    subst hR
    have hkn : kr = [] := List.eq_nil_of_length_eq_zero (by rw [hlen]; rfl)
    subst hkn
    simp only [List.map_nil, srtV, srtH, if_true] at hso
    refine ACalls.of_body Try.func44 rfl (by kernel_rfl) (by rw [Try.ntmps44]; simp) ?_; rw [Try.ntmps44]
    repeat' (first | refine spD (fun _ => ?_) (fun _ => ?_) | refine spF (fun _ => ?_) (fun _ => ?_) | (apply gT; (exact rfl)) | (apply off; (exact rfl); (exact rfl)) | (apply condT; (exact rfl)) | (apply condF; (exact rfl)) | ((first | (apply stp0; (exact rfl); (exact rfl)) | (apply stpN0; (exact rfl)) | apply gT | apply condT | ((first | apply bodyQ_d0 | apply bodyQ_d1 | apply bodyQ_d2 | apply bodyQ_d3 | apply bodyQ_d4); (exact .inr rfl); (rw [Try.results44]))); (first | (focus (simp only [go_sem, ↓reduceIte, simprocAttr] <;> rfl)) | exact rfl); (first | (fail_if_success (show okD _ _ _ _ _ _ _ _ _)) | (first | exact okT | exact okN | exact okE rfl)); (first | (fail_if_success (show Bel _ _)) | (focus first | exact .val _ | (simp [oneOf, Bel_iff_tup, Bel_iff_agg, Bel_iff_rsl, Bel_iff_fn, Bel_iff_rptr, Bel_val]; done)))) | (apply calTo0; (exact rfl); (iterate 2 (simp only [go_sem, ↓reduceIte, simprocAttr]; rfl)); (first | exact hv _ | exact hky | exact hso); (first | exact okT | exact okN | exact okE rfl)) | refine thenQ_n ?_ | refine thenQ_r ?_ | refine thenQ_e ?_ | refine blockQ_n ?_ | refine blockQ_r ?_ | refine blockQ_e ?_ | (apply blockQ_o; (exact rfl)) | refine Awp.seq ?_ | refine Awp.skip ?_ | refine Awp.block ?_ | refine reg (fun s => false) ?_ | (apply drwE mixed (fun s => false); (kernel_rfl)) | refine fin ?_ | refine Awp.ret ?_ | refine Awp.exit ?_ | ((first | (apply off; (exact rfl)) | apply condF); (first | (focus (simp only [go_sem, ↓reduceIte, simprocAttr] <;> rfl)) | exact rfl)))
    all_goals first | contradiction | (exfalso; omega) | skip
    refine Awp.loop (ι := Nat) (fun _ T' K => T' 16 = iv 0 ∧ T' 15 = iv 0 ∧ T' 3 = nilS ∧ Grow H K) (fun m => m) 0 ?_ ?_
    · exact ⟨by (first | (focus (simp only [go_sem, ↓reduceIte, simprocAttr]; first | done | rfl)) | rfl), by (first | (focus (simp only [go_sem, ↓reduceIte, simprocAttr]; first | done | rfl)) | rfl), by (first | (focus (simp only [go_sem, ↓reduceIte, simprocAttr]; first | done | rfl)) | rfl), hG0⟩
    rintro j T K ⟨t16, t15, t3, hG⟩
    repeat' (first | refine spD (fun _ => ?_) (fun _ => ?_) | refine spF (fun _ => ?_) (fun _ => ?_) | (apply gT; (exact rfl)) | (apply off; (exact rfl); (exact rfl)) | (apply condT; (exact rfl)) | (apply condF; (exact rfl)) | ((first | (apply stp0; (exact rfl); (exact rfl)) | (apply stpN0; (exact rfl)) | apply gT | apply condT); (first | (focus (simp only [go_sem, ↓reduceIte, simprocAttr, t16, t15, t3] <;> rfl)) | exact rfl); (first | (fail_if_success (show okD _ _ _ _ _ _ _ _ _)) | (first | exact okT | exact okN | exact okE rfl))) | refine thenQ_n ?_ | refine thenQ_r ?_ | refine thenQ_e ?_ | refine blockQ_n ?_ | refine blockQ_r ?_ | refine blockQ_e ?_ | (apply blockQ_o; (exact rfl)) | refine Awp.seq ?_ | refine Awp.skip ?_ | refine Awp.block ?_ | refine reg (fun s => false) ?_ | (apply drwE mixed (fun s => false); (kernel_rfl)) | refine fin ?_ | refine Awp.ret ?_ | refine Awp.exit ?_ | ((first | (apply off; (exact rfl)) | apply condF); (first | (focus (simp only [go_sem, ↓reduceIte, simprocAttr, t16, t15, t3] <;> rfl)) | exact rfl)))
    all_goals first | contradiction | (exfalso; omega) | skip
    exact bodyQ_own (a := nilS) (t := 23) (es := []) (.inr rfl) (by rw [Try.results44]; simp only [go_sem, ↓reduceIte, simprocAttr, t3]) hG .nil (by intro e he; simp at he)
  | cons r0 R0 =>
    have hne : ¬ kr.map (·.1) = [] := by
      intro e
      have := congrArg List.length e
      rw [List.length_map, hlen, hR] at this; simp at this
    rw [← hR]
    clear hR
    have hkl : (kr.map (·.1)).length = R.length := by rw [List.length_map]; exact hlen
    unfold srtV srtH at hso
    rw [if_neg hne, if_neg hne, hse, hkl] at hso
    have hrow := get_new (H ++ [AObj.cells [[.mp m]] 40]) (.cells ((idsR R).map fun x => [AV.val (Value.int .i64 x)]) kT)
    have hG1 := hG0.app [.cells ((idsR R).map fun x => [AV.val (Value.int .i64 x)]) kT]
    have hil : ((idsR R).map fun x => [AV.val (Value.int .i64 x)]).length = R.length := by simp [idsR]
    have hlm : R.length ≤ maxLen := by simp only [maxLen]; omega
    refine ACalls.of_body Try.func44 rfl (by kernel_rfl) (by rw [Try.ntmps44]; simp) ?_; rw [Try.ntmps44]
    repeat' (first | refine spD (fun _ => ?_) (fun _ => ?_) | refine spF (fun _ => ?_) (fun _ => ?_) | (apply gT; (exact rfl)) | (apply off; (exact rfl); (exact rfl)) | (apply condT; (exact rfl)) | (apply condF; (exact rfl)) | ((first | (apply stp0; (exact rfl); (exact rfl)) | (apply stpN0; (exact rfl)) | apply gT | apply condT | ((first | apply bodyQ_d0 | apply bodyQ_d1 | apply bodyQ_d2 | apply bodyQ_d3 | apply bodyQ_d4); (exact .inr rfl); (rw [Try.results44]))); (first | (focus (simp only [go_sem, ↓reduceIte, simprocAttr] <;> rfl)) | exact rfl); (first | (fail_if_success (show okD _ _ _ _ _ _ _ _ _)) | (first | exact okT | exact okN | exact okE rfl)); (first | (fail_if_success (show Bel _ _)) | (focus first | exact .val _ | (simp [oneOf, Bel_iff_tup, Bel_iff_agg, Bel_iff_rsl, Bel_iff_fn, Bel_iff_rptr, Bel_val]; done)))) | (apply calTo0; (exact rfl); (iterate 2 (simp only [go_sem, ↓reduceIte, simprocAttr]; rfl)); (first | exact hv _ | exact hky | exact hso); (first | exact okT | exact okN | exact okE rfl)) | refine thenQ_n ?_ | refine thenQ_r ?_ | refine thenQ_e ?_ | refine blockQ_n ?_ | refine blockQ_r ?_ | refine blockQ_e ?_ | (apply blockQ_o; (exact rfl)) | refine Awp.seq ?_ | refine Awp.skip ?_ | refine Awp.block ?_ | refine reg (fun s => false) ?_ | (apply drwE mixed (fun s => false); (kernel_rfl)) | refine fin ?_ | refine Awp.ret ?_ | refine Awp.exit ?_ | ((first | (apply off; (exact rfl)) | apply condF); (first | (focus (simp only [go_sem, ↓reduceIte, simprocAttr] <;> rfl)) | exact rfl)))
    all_goals first | contradiction | (exfalso; omega) | skip
    generalize (H ++ [AObj.cells [[.mp m]] 40] ++ [AObj.cells ((idsR R).map fun x => [AV.val (Value.int .i64 x)]) kT] : Hp) = K0 at *
    generalize (H ++ [AObj.cells [[.mp m]] 40] : Hp).length = o at *
    have hG00 := Grow.refl K0
    refine Awp.loop (ι := Nat) (fun i T' K => i ≤ R.length ∧ T' 16 = iv i ∧ T' 15 = iv R.length ∧ T' 14 = .msl o 0 R.length ∧ T' 0 = .rptr [.mp m] 0 ∧ Grow K0 K ∧ ∃ a, T' 3 = a ∧ Own K0.length 23 K a (its (R.take i))) (fun i => R.length - i) 0 ?_ ?_
    · refine ⟨Nat.zero_le _, ?_, ?_, ?_, ?_, hG00, nilS, ?_, .nil⟩
      · (first | (focus (simp only [go_sem, ↓reduceIte, simprocAttr]; first | done | rfl)) | rfl)
      · (first | (focus (simp only [go_sem, ↓reduceIte, simprocAttr]; first | done | rfl)) | rfl)
      · (first | (focus (simp only [go_sem, ↓reduceIte, simprocAttr]; first | done | rfl)) | rfl)
      · (first | (focus (simp only [go_sem, ↓reduceIte, simprocAttr]; first | done | rfl)) | rfl)
      · (first | (focus (simp only [go_sem, ↓reduceIte, simprocAttr]; first | done | rfl)) | rfl)
    rintro i T K ⟨hi, t16, t15, t14, t0, hG, a, t3, hO⟩
    by_cases hlt : i < R.length
    · obtain ⟨r, hr⟩ := nth hlt
      have hri : ((idsR R).map fun x => [AV.val (Value.int .i64 x)])[i]? = some [iv r.id] := by
        unfold idsR
        rw [List.getElem?_map, List.getElem?_map, hr]; rfl
      have hrK := hG.get hrow
      have hmK := hG.get (hG1.get hm)
      have lk : lookA Try.prog 40 (.mp m) (iv r.id) false K = some (.agg [iv r.id, iv r.cls, iv r.made, iv r.size, iv r.pk]) := by
        rw [(mT40.look0 hmK r.id).2, hk.get]
        unfold itF
        rw [findR_at hX.srt.nd hr]; rfl
      have hsu := wsucc hlt hlm
      have hOR : OwnR K0.length 23 5 40 K a (its (R.take i)) := ⟨hO, its_five _, by rw [its_len, List.length_take]; omega⟩
      have hKl : K0.length ≤ K.length := hG.len
      repeat' (first | refine spD (fun _ => ?_) (fun _ => ?_) | refine spF (fun _ => ?_) (fun _ => ?_) | (apply gT; (exact rfl)) | (apply off; (exact rfl); (exact rfl)) | (apply condT; (exact rfl)) | (apply condF; (exact rfl)) | ((first | (apply stp0; (exact rfl); (exact rfl)) | (apply stpN0; (exact rfl)) | apply gT | apply condT | ((first | apply bodyQ_d0 | apply bodyQ_d1 | apply bodyQ_d2 | apply bodyQ_d3 | apply bodyQ_d4); (exact .inr rfl); (rw [Try.results44]))); (first | (focus (simp only [go_sem, ↓reduceIte, simprocAttr, Int.ofNat_lt.2 hlt, t16, t15, t14, t0, t3, hrK, hil, hri, hlt, Nat.zero_add, lk, hsu] <;> rfl)) | exact rfl); (first | (fail_if_success (show okD _ _ _ _ _ _ _ _ _)) | (first | exact okT | exact okN | exact okE rfl)); (first | (fail_if_success (show Bel _ _)) | (focus first | exact .val _ | (simp [oneOf, Bel_iff_tup, Bel_iff_agg, Bel_iff_rsl, Bel_iff_fn, Bel_iff_rptr, Bel_val]; done)))) | (apply stpApp; (exact rfl); (first | exact hOR); (iterate 2 (first | (focus (simp only [go_sem, ↓reduceIte, simprocAttr, Int.ofNat_lt.2 hlt, t16, t15, t14, t0, t3, hrK, hil, hri, hlt, Nat.zero_add, lk, hsu] <;> rfl)) | rfl)); (first | rfl | (simp [AV.isCell]; done)); (first | rfl | (simp; done)); (first | exact ap39 | exact ap44 | exact ap46 | exact ap61 | exact ap63 | exact ap75 | exact ap86 | exact ap101 | exact ap102); (first | exact okT | exact okN | exact okE rfl)) | refine thenQ_n ?_ | refine thenQ_r ?_ | refine thenQ_e ?_ | refine blockQ_n ?_ | refine blockQ_r ?_ | refine blockQ_e ?_ | (apply blockQ_o; (exact rfl)) | refine Awp.seq ?_ | refine Awp.skip ?_ | refine Awp.block ?_ | refine reg (fun s => false) ?_ | (apply drwE mixed (fun s => false); (kernel_rfl)) | refine fin ?_ | refine Awp.ret ?_ | refine Awp.exit ?_ | ((first | (apply off; (exact rfl)) | apply condF); (first | (focus (simp only [go_sem, ↓reduceIte, simprocAttr, Int.ofNat_lt.2 hlt, t16, t15, t14, t0, t3, hrK, hil, hri, hlt, Nat.zero_add, lk, hsu] <;> rfl)) | exact rfl)))
      all_goals first | contradiction | (exfalso; omega) | skip
      refine ⟨i + 1, ⟨hlt, ?_, ?_, ?_, ?_, (hO.grow (Nat.le_refl _) hG).app _, .msl K.length 0 ((its (R.take i)).length + 1), ?_, ?_⟩, Nat.sub_lt_sub_left hlt (Nat.lt_succ_self i)⟩
      · (first | (focus (simp only [go_sem, ↓reduceIte, simprocAttr, hsu]; first | done | rfl)) | rfl)
      · (first | (focus (simp only [go_sem, ↓reduceIte, simprocAttr, t15]; first | done | rfl)) | rfl)
      · (first | (focus (simp only [go_sem, ↓reduceIte, simprocAttr, t14]; first | done | rfl)) | rfl)
      · (first | (focus (simp only [go_sem, ↓reduceIte, simprocAttr, t0]; first | done | rfl)) | rfl)
      · (first | (focus (simp only [go_sem, ↓reduceIte, simprocAttr]; first | done | rfl)) | rfl)
      · rw [its_succ hr]; exact hO.next hKl _ rfl rfl
    · have hie : i = R.length := Nat.le_antisymm hi (Nat.not_lt.1 hlt)
      subst hie
      rw [List.take_length] at hO
      repeat' (first | refine spD (fun _ => ?_) (fun _ => ?_) | refine spF (fun _ => ?_) (fun _ => ?_) | (apply gT; (exact rfl)) | (apply off; (exact rfl); (exact rfl)) | (apply condT; (exact rfl)) | (apply condF; (exact rfl)) | ((first | (apply stp0; (exact rfl); (exact rfl)) | (apply stpN0; (exact rfl)) | apply gT | apply condT); (first | (focus (simp only [go_sem, ↓reduceIte, simprocAttr, Int.lt_irrefl, t16, t15, t3] <;> rfl)) | exact rfl); (first | (fail_if_success (show okD _ _ _ _ _ _ _ _ _)) | (first | exact okT | exact okN | exact okE rfl))) | refine thenQ_n ?_ | refine thenQ_r ?_ | refine thenQ_e ?_ | refine blockQ_n ?_ | refine blockQ_r ?_ | refine blockQ_e ?_ | (apply blockQ_o; (exact rfl)) | refine Awp.seq ?_ | refine Awp.skip ?_ | refine Awp.block ?_ | refine reg (fun s => false) ?_ | (apply drwE mixed (fun s => false); (kernel_rfl)) | refine fin ?_ | refine Awp.ret ?_ | refine Awp.exit ?_ | ((first | (apply off; (exact rfl)) | apply condF); (first | (focus (simp only [go_sem, ↓reduceIte, simprocAttr, Int.lt_irrefl, t16, t15, t3] <;> rfl)) | exact rfl)))
      all_goals first | contradiction | (exfalso; omega) | skip
      exact bodyQ_own (a := a) (t := 23) (.inr rfl) (by rw [Try.results44]; simp only [go_sem, ↓reduceIte, simprocAttr, t3]) (hG1.trans hG) (hO.low hG1.len) (its_plain _)

end Go.Proofs.Ytlhchnnfgppneaa.Ab
