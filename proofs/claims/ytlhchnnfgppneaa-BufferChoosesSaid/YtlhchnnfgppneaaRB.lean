/- Best: what it comes to. -/
import Derived.Test.YtlhchnnfgppneaaRA
namespace Go.Proofs.Ytlhchnnfgppneaa.Ab
open Go Go.RowKit Go.Proofs
set_option linter.unusedSimpArgs false
set_option linter.unusedVariables false
attribute [local irreducible] Awp wpO thenQ blockQ bodyQ ACalls stepA

theorem intsOne (v : List Int) : ∀ e ∈ ints v, e.length = 1 := by
  intro e he
  obtain ⟨x, _, rfl⟩ := List.mem_map.1 he
  rfl
theorem intsApp (v : List Int) (x : Int) : ints v ++ [[iv x]] = ints (v ++ [x]) := by simp [ints]
theorem shr32 (x k : Nat) (hk : k ≤ 23) (a b : Operand) : binA Try.prog .shr 91 a b (.val (.int .u32 x)) (iv (k : Nat)) = some (.val (.int .u32 ((x / 2 ^ k : Nat) : Int))) := by
  show intA Try.prog .shr 91 .u32 x .i64 k = _
  unfold intA
  have e : binOp .shr 91 (.int .u32 x) (.int .i64 k) = pure (.int .u32 ((x : Int) / 2 ^ (k : Int).toNat)) := shift_shr .u32 .i64 x k (by omega) (by simp only [IntKind.bits]; omega)
  have e2 : (x : Int) / 2 ^ (k : Int).toNat = ((x / 2 ^ k : Nat) : Int) := by rw [Int.toNat_natCast, Int.natCast_ediv]; simp
  rw [e2] at e
  simp only [e]
  rfl
theorem and32 (x : Nat) (hx : x < 16777216) (a b : Operand) : binA Try.prog .and 91 a b (.val (.int .u32 x)) (.val (.int .u32 1)) = some (.val (.int .u32 ((x % 2 : Nat) : Int))) := by
  show intA Try.prog .and 91 .u32 x .u32 1 = _
  unfold intA
  have e : binOp .and 91 (.int .u32 x) (.int .u32 1) = pure (.int .u32 (Go.bits .and .u32 (x : Int) ((1 : Nat) : Int))) := rfl
  rw [u32_and_nat x 1 (by omega) (by omega), nat_mask1] at e
  simp only [e]
  rfl

set_option maxRecDepth 8000 in
set_option maxHeartbeats 4000000 in
theorem bestC {H K : Hp} {l : List Pr} {ex : Bool} {x : Ch} {tb : Nat} {T : Env} (t0 : T 0 = .rsl (prs l) ex) (t12 : T 12 = .mptr tb 0 0) (t19 : T 19 = nilS)
    (hG : Grow H K) (htb : H.length ≤ tb) (hx : K[tb]? = some (.cells [[.val (.int .u32 (x.bits : Nat)), iv x.worth, iv x.size]] 145)) (h24 : l.length ≤ 24) (hb : x.bits < 16777216) :
    Awp Try.prog 130 none (hdC (tl (tl (tl (tl (tl (tl (tl (tl (tl (tl (tl (tl (Try.f45.body.getD .skip)))))))))))))) T K (fun e T' K' => e = .normal ∧ T' 12 = .mptr tb 0 0 ∧ Grow H K' ∧ K'[tb]? = some (.cells [[.val (.int .u32 (x.bits : Nat)), iv x.worth, iv x.size]] 145) ∧ Own H.length 3 K' (T' 19) (ints (idxL x.bits l.length))) := by
  have hpl := prs_len l
  unfold Try.f45
  simp only [tl, hdC, Option.getD_some]
  repeat' (first | refine spD (fun _ => ?_) (fun _ => ?_) | refine spF (fun _ => ?_) (fun _ => ?_) | (apply gT; (exact rfl)) | (apply off; (exact rfl); (exact rfl)) | (apply condT; (exact rfl)) | (apply condF; (exact rfl)) | ((first | (apply stp0; (exact rfl); (exact rfl)) | (apply stpN0; (exact rfl)) | apply gT | apply condT | ((first | apply bodyQ_d0 | apply bodyQ_d1 | apply bodyQ_d2 | apply bodyQ_d3 | apply bodyQ_d4); (exact .inr rfl); (rw [Try.results45]))); (first | (focus (simp only [go_sem, ↓reduceIte, simprocAttr, t0, t12, t19, hpl] <;> rfl)) | exact rfl); (first | (fail_if_success (show okD _ _ _ _ _ _ _ _ _)) | (first | exact okT | exact okN | exact okE rfl)); (first | (fail_if_success (show Bel _ _)) | (focus first | exact .val _ | (simp [oneOf, Bel_iff_tup, Bel_iff_agg, Bel_iff_rsl, Bel_iff_fn, Bel_iff_rptr, Bel_val]; done)))) | refine thenQ_n ?_ | refine thenQ_r ?_ | refine thenQ_e ?_ | refine blockQ_n ?_ | refine blockQ_r ?_ | refine blockQ_e ?_ | (apply blockQ_o; (exact rfl)) | refine Awp.seq ?_ | refine Awp.skip ?_ | refine Awp.block ?_ | refine reg (fun s => s == 12 || s == 14 || s == 17 || s == 18) ?_ | (apply drwE mixed (fun s => s == 12 || s == 14 || s == 17 || s == 18); (kernel_rfl)) | refine fin ?_ | refine Awp.ret ?_ | refine Awp.exit ?_ | ((first | (apply off; (exact rfl)) | apply condF); (first | (focus (simp only [go_sem, ↓reduceIte, simprocAttr, t0, t12, t19, hpl] <;> rfl)) | exact rfl)))
  all_goals first | contradiction | skip
  refine Awp.loop (ι := Nat) (fun i T' K' => i ≤ l.length ∧ (T' 112 = iv i ∧ T' 111 = iv l.length ∧ T' 12 = .mptr tb 0 0) ∧ Grow H K' ∧ K'[tb]? = some (.cells [[.val (.int .u32 (x.bits : Nat)), iv x.worth, iv x.size]] 145) ∧ ∃ a, T' 19 = a ∧ Own H.length 3 K' a (ints (idxL x.bits i))) (fun i => l.length - i) 0 ?_ ?_
  · exact ⟨Nat.zero_le _, ⟨by (first | (focus (simp only [go_sem, ↓reduceIte, simprocAttr]; first | done | rfl)) | rfl), by (first | (focus (simp only [go_sem, ↓reduceIte, simprocAttr, hpl]; first | done | rfl)) | rfl), by (first | (focus (simp only [go_sem, ↓reduceIte, simprocAttr, t12]; first | done | rfl)) | rfl)⟩, hG, hx, nilS, by (first | (focus (simp only [go_sem, ↓reduceIte, simprocAttr, t19]; first | done | rfl)) | rfl), .nil⟩
  clear t0 t12 t19 T hG hx K
  rintro i T K ⟨hi, ⟨t112, t111, t12⟩, hG, hx, a, t19, hO⟩
  by_cases hil : i < l.length
  · have hw := wsucc hil (show l.length ≤ maxLen by simp only [maxLen]; omega)
    have ws : IntKind.i64.wrap (23 - (i : Int)) = ((23 - i : Nat) : Int) := by rw [w64 (by omega) (by omega)]; omega
    have hsh := shr32 x.bits (23 - i) (by omega)
    have hq : x.bits / 2 ^ (23 - i) < 16777216 := Nat.lt_of_le_of_lt (Nat.div_le_self _ _) hb
    have hand := and32 (x.bits / 2 ^ (23 - i)) hq
    have hidx := idxL_succ x.bits i
    have hil2 := idxL_len x.bits i
    have hiL := ints_len (idxL x.bits i)
    have hO2 : OwnR H.length 3 1 8 K a (ints (idxL x.bits i)) := ⟨hO, intsOne _, by rw [hiL]; omega⟩
    have happ := intsApp (idxL x.bits i) i
    generalize x.bits / 2 ^ (23 - i) = z at *
    by_cases h1 : z % 2 = 1
    · rw [if_pos h1] at hidx
      rw [h1] at hand
      repeat' (first | refine spD (fun _ => ?_) (fun _ => ?_) | refine spF (fun _ => ?_) (fun _ => ?_) | (apply gT; (exact rfl)) | (apply off; (exact rfl); (exact rfl)) | (apply condT; (exact rfl)) | (apply condF; (exact rfl)) | ((first | (apply stp0; (exact rfl); (exact rfl)) | (apply stpN0; (exact rfl)) | apply gT | apply condT | ((first | apply bodyQ_d0 | apply bodyQ_d1 | apply bodyQ_d2 | apply bodyQ_d3 | apply bodyQ_d4); (exact .inr rfl); (rw [Try.results45]))); (first | (focus (simp only [go_sem, ↓reduceIte, simprocAttr, Int.ofNat_lt.2 hil, t112, t111, t12, t19, hw, ws, hsh, hand, hx] <;> rfl)) | exact rfl); (first | (fail_if_success (show okD _ _ _ _ _ _ _ _ _)) | (first | exact okT | exact okN | exact okE rfl)); (first | (fail_if_success (show Bel _ _)) | (focus first | exact .val _ | (simp [oneOf, Bel_iff_tup, Bel_iff_agg, Bel_iff_rsl, Bel_iff_fn, Bel_iff_rptr, Bel_val]; done)))) | (apply stpApp; (exact rfl); (first | exact hO2); (iterate 2 (first | (focus (simp only [go_sem, ↓reduceIte, simprocAttr, Int.ofNat_lt.2 hil, t112, t111, t12, t19, hw, ws, hsh, hand, hx] <;> rfl)) | rfl)); (first | rfl | (simp [AV.isCell]; done)); (first | rfl | (simp; done)); (first | exact ap46 | exact ap75 | exact ap85 | exact ap86 | exact ap90 | exact ap141); (first | exact okT | exact okN | exact okE rfl)) | refine thenQ_n ?_ | refine thenQ_r ?_ | refine thenQ_e ?_ | refine blockQ_n ?_ | refine blockQ_r ?_ | refine blockQ_e ?_ | (apply blockQ_o; (exact rfl)) | refine Awp.seq ?_ | refine Awp.skip ?_ | refine Awp.block ?_ | refine reg (fun s => s == 12 || s == 14 || s == 17 || s == 18) ?_ | (apply drwE mixed (fun s => s == 12 || s == 14 || s == 17 || s == 18); (kernel_rfl)) | refine fin ?_ | refine Awp.ret ?_ | refine Awp.exit ?_ | ((first | (apply off; (exact rfl)) | apply condF); (first | (focus (simp only [go_sem, ↓reduceIte, simprocAttr, Int.ofNat_lt.2 hil, t112, t111, t12, t19, hw, ws, hsh, hand, hx] <;> rfl)) | exact rfl)))
      all_goals first | contradiction | skip
      have hx2 : (ownK K a ++ [AObj.cells (ints (idxL x.bits i) ++ [[iv (i : Int)]]) 3])[tb]? = some (.cells [[.val (.int .u32 (x.bits : Nat)), iv x.worth, iv x.size]] 145) := (held (hO.other hx (fun e => absurd (AObj.cells.inj e).2 (by decide)))).2.1 _
      have hO3 := hO.next hG.len [iv (i : Int)] rfl rfl
      rw [happ, ← hidx] at hO3
      refine ⟨i + 1, ⟨hil, ⟨by (first | (focus (simp only [go_sem, ↓reduceIte, simprocAttr, hw]; first | done | rfl)) | rfl), by (first | (focus (simp only [go_sem, ↓reduceIte, simprocAttr, t111]; first | done | rfl)) | rfl), by (first | (focus (simp only [go_sem, ↓reduceIte, simprocAttr, t12]; first | done | rfl)) | rfl)⟩, (hO.grow (Nat.le_refl _) hG).app _, hx2, .msl K.length 0 ((ints (idxL x.bits i)).length + 1), by (first | (focus (simp only [go_sem, ↓reduceIte, simprocAttr]; first | done | rfl)) | rfl), ?_⟩, by omega⟩
      rw [happ, ← hidx]; exact hO3
    · have h0 : z % 2 = 0 := by omega
      rw [if_neg h1] at hidx
      rw [h0] at hand
      repeat' (first | refine spD (fun _ => ?_) (fun _ => ?_) | refine spF (fun _ => ?_) (fun _ => ?_) | (apply gT; (exact rfl)) | (apply off; (exact rfl); (exact rfl)) | (apply condT; (exact rfl)) | (apply condF; (exact rfl)) | ((first | (apply stp0; (exact rfl); (exact rfl)) | (apply stpN0; (exact rfl)) | apply gT | apply condT | ((first | apply bodyQ_d0 | apply bodyQ_d1 | apply bodyQ_d2 | apply bodyQ_d3 | apply bodyQ_d4); (exact .inr rfl); (rw [Try.results45]))); (first | (focus (simp only [go_sem, ↓reduceIte, simprocAttr, Int.ofNat_lt.2 hil, t112, t111, t12, t19, hw, ws, hsh, hand, hx] <;> rfl)) | exact rfl); (first | (fail_if_success (show okD _ _ _ _ _ _ _ _ _)) | (first | exact okT | exact okN | exact okE rfl)); (first | (fail_if_success (show Bel _ _)) | (focus first | exact .val _ | (simp [oneOf, Bel_iff_tup, Bel_iff_agg, Bel_iff_rsl, Bel_iff_fn, Bel_iff_rptr, Bel_val]; done)))) | refine thenQ_n ?_ | refine thenQ_r ?_ | refine thenQ_e ?_ | refine blockQ_n ?_ | refine blockQ_r ?_ | refine blockQ_e ?_ | (apply blockQ_o; (exact rfl)) | refine Awp.seq ?_ | refine Awp.skip ?_ | refine Awp.block ?_ | refine reg (fun s => s == 12 || s == 14 || s == 17 || s == 18) ?_ | (apply drwE mixed (fun s => s == 12 || s == 14 || s == 17 || s == 18); (kernel_rfl)) | refine fin ?_ | refine Awp.ret ?_ | refine Awp.exit ?_ | ((first | (apply off; (exact rfl)) | apply condF); (first | (focus (simp only [go_sem, ↓reduceIte, simprocAttr, Int.ofNat_lt.2 hil, t112, t111, t12, t19, hw, ws, hsh, hand, hx] <;> rfl)) | exact rfl)))
      all_goals first | contradiction | skip
      exact ⟨i + 1, ⟨hil, ⟨by (first | (focus (simp only [go_sem, ↓reduceIte, simprocAttr, hw]; first | done | rfl)) | rfl), by (first | (focus (simp only [go_sem, ↓reduceIte, simprocAttr, t111]; first | done | rfl)) | rfl), by (first | (focus (simp only [go_sem, ↓reduceIte, simprocAttr, t12]; first | done | rfl)) | rfl)⟩, hG, hx, a, by (first | (focus (simp only [go_sem, ↓reduceIte, simprocAttr, t19]; first | done | rfl)) | rfl), by rw [hidx]; exact hO⟩, by omega⟩
  · have e : i = l.length := by omega
    subst e
    repeat' (first | refine spD (fun _ => ?_) (fun _ => ?_) | refine spF (fun _ => ?_) (fun _ => ?_) | (apply gT; (exact rfl)) | (apply off; (exact rfl); (exact rfl)) | (apply condT; (exact rfl)) | (apply condF; (exact rfl)) | ((first | (apply stp0; (exact rfl); (exact rfl)) | (apply stpN0; (exact rfl)) | apply gT | apply condT | ((first | apply bodyQ_d0 | apply bodyQ_d1 | apply bodyQ_d2 | apply bodyQ_d3 | apply bodyQ_d4); (exact .inr rfl); (rw [Try.results45]))); (first | (focus (simp only [go_sem, ↓reduceIte, simprocAttr, Int.lt_irrefl, t112, t111] <;> rfl)) | exact rfl); (first | (fail_if_success (show okD _ _ _ _ _ _ _ _ _)) | (first | exact okT | exact okN | exact okE rfl)); (first | (fail_if_success (show Bel _ _)) | (focus first | exact .val _ | (simp [oneOf, Bel_iff_tup, Bel_iff_agg, Bel_iff_rsl, Bel_iff_fn, Bel_iff_rptr, Bel_val]; done)))) | refine thenQ_n ?_ | refine thenQ_r ?_ | refine thenQ_e ?_ | refine blockQ_n ?_ | refine blockQ_r ?_ | refine blockQ_e ?_ | (apply blockQ_o; (exact rfl)) | refine Awp.seq ?_ | refine Awp.skip ?_ | refine Awp.block ?_ | refine reg (fun s => s == 12 || s == 14 || s == 17 || s == 18) ?_ | (apply drwE mixed (fun s => s == 12 || s == 14 || s == 17 || s == 18); (kernel_rfl)) | refine fin ?_ | refine Awp.ret ?_ | refine Awp.exit ?_ | ((first | (apply off; (exact rfl)) | apply condF); (first | (focus (simp only [go_sem, ↓reduceIte, simprocAttr, Int.lt_irrefl, t112, t111] <;> rfl)) | exact rfl)))
    all_goals first | contradiction | skip
    refine ⟨rfl, by (first | (focus (simp only [go_sem, ↓reduceIte, simprocAttr, t12]; first | done | rfl)) | rfl), hG, hx, ?_⟩
    rw [← t19] at hO
    exact hO

set_option maxRecDepth 8000 in
set_option maxHeartbeats 8000000 in
theorem Best_ok (H : Hp) (l : List Pr) (ex : Bool) (room : Int) (h : l.length ≤ 24) (hb : l.any badP = false) (hr : 0 ≤ room ∧ room ≤ 16777216) :
    ACalls Try.prog 45 [.rsl (prs l) ex, iv room] H fun v1 K => ∃ a, v1 = .tup [a, iv (topL l room).worth, iv 0] ∧ Own H.length 3 K a (ints (idxL (topL l room).bits l.length)) ∧ Grow H K := by
  have hpl := prs_len l
  have hg : ¬ (l.length : Int) > 24 := by omega
  have hc := fun H => containsP_ok H l ex (by simp only [maxLen]; omega)
  have ho := fun H => outside_ok H room 0 16777216
  rw [hb] at hc
  rw [decide_eq_false (by omega)] at ho
  have hok : ∀ p ∈ l, p.ok := fun p hp => by
    rw [List.any_eq_false] at hb
    have := hb p hp
    unfold badP at this
    simpa using this
  obtain ⟨half, hhd⟩ : ∃ half, half = l.length / 2 := ⟨_, rfl⟩
  have w1 : (l.length : Int).tdiv 2 = (half : Int) := by rw [Int.tdiv_eq_ediv_of_nonneg (by omega)]; omega
  have w2 : IntKind.i64.wrap ((half : Int)) = (half : Int) := w64 (by omega) (by omega)
  have hl1 : (l.take half).length = half := by rw [List.length_take]; omega
  have hl2 : (l.drop half).length = l.length - half := by rw [List.length_drop]
  have hle : half ≤ l.length := by omega
  have h12 : half ≤ 12 := by omega
  have h24 : l.length - half ≤ 12 := by omega
  have hz1 : 0 = half ∨ ((prs l)[0]?).map List.length = some 2 := by
    rcases Nat.eq_zero_or_pos half with e | e
    · exact .inl e.symm
    · obtain ⟨p, hp⟩ := nth (l := l) (i := 0) (by omega)
      right; rw [prs_at hp]; rfl
  have hz2 : half = l.length ∨ ((prs l)[half]?).map List.length = some 2 := by
    rcases Nat.eq_zero_or_pos l.length with e | e
    · left; omega
    · obtain ⟨p, hp⟩ := nth (l := l) (i := half) (by omega)
      right; rw [prs_at hp]; rfl
  have hs1 := fun (ex : Bool) H => subs_ok H (l.take half) ex 23 (fun p hp => hok p (List.mem_of_mem_take hp)) (by omega) (by omega) (by omega)
  have hs2 : ∀ (ex : Bool) H, ACalls Try.prog 80 [.rsl (prs (l.drop half)) ex, iv (23 - half : Nat)] H (HalfP H (subs (l.drop half) (23 - half) c00)) := fun ex H => subs_own H (l.drop half) ex (23 - half) (fun p hp => hok p (List.mem_of_mem_drop hp)) (by omega) (by omega) (by omega)
  rw [show (⟨0, 0, 0⟩ : Ch) = c00 from rfl] at hs1
  rw [prs_take] at hs1
  rw [prs_drop] at hs2
  have hFl : (subs (l.take half) 23 c00).length ≤ 4096 := by rw [subs_len, hl1]; exact Nat.pow_le_pow_right (by omega) h12
  have hLl : (subs (l.drop half) (23 - half) c00).length ≤ 4096 := by rw [subs_len, hl2]; exact Nat.pow_le_pow_right (by omega) h24
  have hLp : 0 < (subs (l.drop half) (23 - half) c00).length := by rw [subs_len]; exact Nat.two_pow_pos _
  have hFm := fun x (hx : x ∈ subs (l.take half) 23 c00) => subs_mem (fun p hp => hok p (List.mem_of_mem_take hp)) hx (by omega) (by simp [c00])
  have hLm := fun x (hx : x ∈ subs (l.drop half) (23 - half) c00) => subs_mem (fun p hp => hok p (List.mem_of_mem_drop hp)) hx (by omega) (by simp [c00])
  have hall := fun (L : List Ch) x => seenA_top (l := l) (half := half) (L := L) (room := room) (x := x) hle rfl
  rw [hl1] at hFm
  rw [hl2, show 23 - half + 1 = 24 - half by omega] at hLm
  have hF2 : ∀ x ∈ subs (l.take half) 23 c00, (0 ≤ x.worth ∧ x.worth ≤ 25165824) ∧ (0 ≤ x.size ∧ x.size ≤ 402653184) ∧ x.bits % 2 ^ (24 - half) = 0 ∧ x.bits < 16777216 := fun x hx => by
    obtain ⟨a1, a2, a3, a4, a5⟩ := hFm x hx
    simp only [c00] at a1 a2 a5
    exact ⟨⟨by omega, by omega⟩, ⟨by omega, by omega⟩, a3, by omega⟩
  have hL2 : ∀ x ∈ subs (l.drop half) (23 - half) c00, (0 ≤ x.worth ∧ x.worth ≤ 25165824) ∧ (0 ≤ x.size ∧ x.size ≤ 402653184) ∧ x.bits < 2 ^ (24 - half) := fun x hx => by
    obtain ⟨a1, a2, a3, a4, a5⟩ := hLm x hx
    simp only [c00] at a1 a2 a5
    exact ⟨⟨by omega, by omega⟩, ⟨by omega, by omega⟩, by omega⟩
  clear hFm hLm
  generalize subs (l.take half) 23 c00 = F at *
  generalize subs (l.drop half) (23 - half) c00 = L0 at *
  refine ACalls.of_body Try.func45 rfl (by kernel_rfl) (by rw [Try.ntmps45]; simp) ?_; rw [Try.ntmps45]
  repeat' ((fail_if_success (apply stopR (id := 8))); (fail_if_success (apply stopS (id := 8))); first | refine spD (fun _ => ?_) (fun _ => ?_) | refine spF (fun _ => ?_) (fun _ => ?_) | (apply gT; (exact rfl)) | (apply off; (exact rfl); (exact rfl)) | (apply condT; (exact rfl)) | (apply condF; (exact rfl)) | ((first | (apply stp0; (exact rfl); (exact rfl)) | (apply stpN0; (exact rfl)) | apply gT | apply condT | ((first | apply bodyQ_d0 | apply bodyQ_d1 | apply bodyQ_d2 | apply bodyQ_d3 | apply bodyQ_d4); (exact .inr rfl); (rw [Try.results45]))); (first | (focus (simp only [go_sem, ↓reduceIte, simprocAttr, hpl, hg, w1, w2] <;> rfl)) | exact rfl); (first | (fail_if_success (show okD _ _ _ _ _ _ _ _ _)) | (first | exact okT | exact okN | exact okE rfl)); (first | (fail_if_success (show Bel _ _)) | (focus first | exact .val _ | (simp [oneOf, Bel_iff_tup, Bel_iff_agg, Bel_iff_rsl, Bel_iff_fn, Bel_iff_rptr, Bel_val]; done)))) | (apply calTo0; (exact rfl); (iterate 2 (simp only [go_sem, ↓reduceIte, simprocAttr, hpl, hg, w1, w2]; rfl)); (first | exact hc _ | exact ho _); (first | exact okT | exact okN | exact okE rfl)) | refine thenQ_n ?_ | refine thenQ_r ?_ | refine thenQ_e ?_ | refine blockQ_n ?_ | refine blockQ_r ?_ | refine blockQ_e ?_ | (apply blockQ_o; (exact rfl)) | refine Awp.seq ?_ | refine Awp.skip ?_ | refine Awp.block ?_ | refine reg (fun s => s == 12 || s == 14 || s == 17 || s == 18) ?_ | (apply drwE mixed (fun s => s == 12 || s == 14 || s == 17 || s == 18); (kernel_rfl)) | refine fin ?_ | refine Awp.ret ?_ | refine Awp.exit ?_ | ((first | (apply off; (exact rfl)) | apply condF); (first | (focus (simp only [go_sem, ↓reduceIte, simprocAttr, hpl, hg, w1, w2] <;> rfl)) | exact rfl)))
  all_goals first | contradiction | skip
  refine Awp.withT (fun T' => T' 0 = .rsl (prs l) ex ∧ T' 1 = iv room ∧ T' 7 = iv half) ⟨by (first | (focus (simp only [go_sem, ↓reduceIte, simprocAttr]; first | done | rfl)) | rfl), by (first | (focus (simp only [go_sem, ↓reduceIte, simprocAttr]; first | done | rfl)) | rfl), by (first | (focus (simp only [go_sem, ↓reduceIte, simprocAttr]; first | done | rfl)) | rfl)⟩ ?_
  rintro T ⟨t0, t1, t7⟩
  refine Awp.seq ?_
  refine Awp.mono (best8 t0 t1 t7 hle (by omega) hz1 hz2 hs1 hs2) ?_
  clear t0 t1 t7 T hs1 hs2 hz1 hz2 hc ho
  rintro e T K1 ⟨rfl, t0, t1, t8, hG1, b, hbH, t9, hbL⟩
  refine thenQ_n ?_
  have hsrt := sort81_ok K1 L0 hLp hLl hbL
  repeat' (first | refine spD (fun _ => ?_) (fun _ => ?_) | refine spF (fun _ => ?_) (fun _ => ?_) | (apply gT; (exact rfl)) | (apply off; (exact rfl); (exact rfl)) | (apply condT; (exact rfl)) | (apply condF; (exact rfl)) | ((first | (apply stp0; (exact rfl); (exact rfl)) | (apply stpN0; (exact rfl)) | apply gT | apply condT | ((first | apply bodyQ_d0 | apply bodyQ_d1 | apply bodyQ_d2 | apply bodyQ_d3 | apply bodyQ_d4); (exact .inr rfl); (rw [Try.results45]))); (first | (focus (simp only [go_sem, ↓reduceIte, simprocAttr, t9] <;> rfl)) | exact rfl); (first | (fail_if_success (show okD _ _ _ _ _ _ _ _ _)) | (first | exact okT | exact okN | exact okE rfl)); (first | (fail_if_success (show Bel _ _)) | (focus first | exact .val _ | (simp [oneOf, Bel_iff_tup, Bel_iff_agg, Bel_iff_rsl, Bel_iff_fn, Bel_iff_rptr, Bel_val]; done)))) | refine thenQ_n ?_ | refine thenQ_r ?_ | refine thenQ_e ?_ | refine blockQ_n ?_ | refine blockQ_r ?_ | refine blockQ_e ?_ | (apply blockQ_o; (exact rfl)) | refine Awp.seq ?_ | refine Awp.skip ?_ | refine Awp.block ?_ | refine reg (fun s => s == 12 || s == 14 || s == 17 || s == 18) ?_ | (apply drwE mixed (fun s => s == 12 || s == 14 || s == 17 || s == 18); (kernel_rfl)) | refine fin ?_ | refine Awp.ret ?_ | refine Awp.exit ?_ | ((first | (apply off; (exact rfl)) | apply condF); (first | (focus (simp only [go_sem, ↓reduceIte, simprocAttr, t9] <;> rfl)) | exact rfl)))
  all_goals first | contradiction | skip
  refine cal rfl rfl rfl ?_ (show ACallV Try.prog (.fn (.func 81) []) [.msl b 0 L0.length, .fn (.func 82) []] K1 _ from hsrt) ?_
  · (first | (focus (simp only [go_sem, ↓reduceIte, simprocAttr, t9]; first | done | rfl)) | rfl)
  rintro v1 K2 ⟨rfl, L, hperm, hz, rfl⟩
  have hlen := hperm.length_eq
  have hL3 := fun x (hx : x ∈ L) => hL2 x (hperm.mem_iff.1 hx)
  have hLp' : 0 < L.length := by omega
  have hLl' : L.length ≤ 4096 := by omega
  rw [← hlen] at t9
  clear hL2 hsrt hLp hLl
  have hb2 := (heldS hbL).1 (.cells (chs L) 145)
  have hG2 := hG1.set hbH (.cells (chs L) 145)
  have hcl := clone84_ok _ L hLp' hLl' hb2
  have hLC := chs_len L
  generalize hK2 : K1.set b (.cells (chs L) 145) = K2 at *
  clear hbL hG1 hK2 K1
  repeat' ((fail_if_success (apply stopR (id := 11))); (fail_if_success (apply stopS (id := 11))); first | refine spD (fun _ => ?_) (fun _ => ?_) | refine spF (fun _ => ?_) (fun _ => ?_) | (apply gT; (exact rfl)) | (apply off; (exact rfl); (exact rfl)) | (apply condT; (exact rfl)) | (apply condF; (exact rfl)) | ((first | (apply stp0; (exact rfl); (exact rfl)) | (apply stpN0; (exact rfl)) | apply gT | apply condT | ((first | apply bodyQ_d0 | apply bodyQ_d1 | apply bodyQ_d2 | apply bodyQ_d3 | apply bodyQ_d4); (exact .inr rfl); (rw [Try.results45]))); (first | (focus (simp only [go_sem, ↓reduceIte, simprocAttr, t9] <;> rfl)) | exact rfl); (first | (fail_if_success (show okD _ _ _ _ _ _ _ _ _)) | (first | exact okT | exact okN | exact okE rfl)); (first | (fail_if_success (show Bel _ _)) | (focus first | exact .val _ | (simp [oneOf, Bel_iff_tup, Bel_iff_agg, Bel_iff_rsl, Bel_iff_fn, Bel_iff_rptr, Bel_val]; done)))) | (apply calTo0; (exact rfl); (iterate 2 (simp only [go_sem, ↓reduceIte, simprocAttr, t9]; rfl)); (first | exact hcl); (first | exact okT | exact okN | exact okE rfl)) | refine thenQ_n ?_ | refine thenQ_r ?_ | refine thenQ_e ?_ | refine blockQ_n ?_ | refine blockQ_r ?_ | refine blockQ_e ?_ | (apply blockQ_o; (exact rfl)) | refine Awp.seq ?_ | refine Awp.skip ?_ | refine Awp.block ?_ | refine reg (fun s => s == 12 || s == 14 || s == 17 || s == 18) ?_ | (apply drwE mixed (fun s => s == 12 || s == 14 || s == 17 || s == 18); (kernel_rfl)) | refine fin ?_ | refine Awp.ret ?_ | refine Awp.exit ?_ | ((first | (apply off; (exact rfl)) | apply condF); (first | (focus (simp only [go_sem, ↓reduceIte, simprocAttr, t9] <;> rfl)) | exact rfl)))
  all_goals first | contradiction | skip
  refine Awp.withT (fun T' => T' 0 = .rsl (prs l) ex ∧ T' 1 = iv room ∧ T' 8 = .rsl (chs F) false ∧ T' 9 = .msl b 0 L.length ∧ T' 10 = .msl K2.length 0 L.length) ⟨by (first | (focus (simp only [go_sem, ↓reduceIte, simprocAttr, t0]; first | done | rfl)) | rfl), by (first | (focus (simp only [go_sem, ↓reduceIte, simprocAttr, t1]; first | done | rfl)) | rfl), by (first | (focus (simp only [go_sem, ↓reduceIte, simprocAttr, t8]; first | done | rfl)) | rfl), by (first | (focus (simp only [go_sem, ↓reduceIte, simprocAttr, t9]; first | done | rfl)) | rfl), by (first | (focus (simp only [go_sem, ↓reduceIte, simprocAttr]; first | done | rfl)) | rfl)⟩ ?_
  clear t0 t1 t8 t9 T hcl
  rintro T ⟨t0, t1, t8, t9, t10⟩
  have hO9 : Own H.length 145 (K2 ++ [.cells (chs L) 145]) (.msl b 0 L.length) (chs L) := by
    rw [← hLC]
    exact .row (fun e => by have := congrArg List.length e; rw [hLC] at this; simp at this; rw [this] at hLp'; exact absurd hLp' (by decide)) hbH ((held hb2).2.1 _)
  refine Awp.frzOwn 9 hO9 t9 ?_
  have hG3 : Grow H (Go.Proofs.Ytlhchnnfgppneaa.Ab.ownK (K2 ++ [AObj.cells (chs L) 145]) (.msl b 0 L.length)) := hO9.grow (Nat.le_refl _) (hG2.app _)
  have hbne : K2.length ≠ b := fun e => by have := (List.getElem?_eq_some_iff.1 hb2).1; omega
  have hc3 : (Go.Proofs.Ytlhchnnfgppneaa.Ab.ownK (K2 ++ [AObj.cells (chs L) 145]) (.msl b 0 L.length))[K2.length]? = some (.cells (chs L) 145) := by
    show ((K2 ++ [AObj.cells (chs L) 145]).set b .dead)[K2.length]? = _
    rw [List.getElem?_set_ne (Ne.symm hbne)]; exact get_new _ _
  have hcH : H.length ≤ K2.length := hG2.len
  refine Awp.withT (fun T' => T' 0 = .rsl (prs l) ex ∧ T' 1 = iv room ∧ T' 8 = .rsl (chs F) false ∧ T' 9 = .rsl (chs L) false ∧ T' 10 = .msl K2.length 0 L.length) ⟨by (first | (focus (simp only [go_sem, ↓reduceIte, simprocAttr, t0]; first | done | rfl)) | rfl), by (first | (focus (simp only [go_sem, ↓reduceIte, simprocAttr, t1]; first | done | rfl)) | rfl), by (first | (focus (simp only [go_sem, ↓reduceIte, simprocAttr, t8]; first | done | rfl)) | rfl), by (first | (focus (simp only [go_sem, ↓reduceIte, simprocAttr]; first | done | rfl)) | rfl), by (first | (focus (simp only [go_sem, ↓reduceIte, simprocAttr, t10]; first | done | rfl)) | rfl)⟩ ?_
  clear t0 t1 t8 t9 t10 T hO9 hb2 hG2 hbne hbH
  rintro T ⟨t0, t1, t8, t9, t10⟩
  generalize Go.Proofs.Ytlhchnnfgppneaa.Ab.ownK (K2 ++ [AObj.cells (chs L) 145]) (.msl b 0 L.length) = K3 at *
  generalize K2.length = c at *
  clear K2
  refine Awp.mono (bestA t0 t1 t8 t9 t10 hc3 hLp' hLl') ?_
  clear t0 t1 t8 t9 t10 T
  rintro e T K4 ⟨rfl, ⟨t0, t1, t8, t9, t10⟩, R, hP, rfl⟩
  refine thenQ_n ?_
  have hRC := chs_len R
  have hc4 := (heldS hc3).1 (.cells (chs R) 145)
  have hG4 := hG3.set hcH (.cells (chs R) 145)
  generalize K3.set c (.cells (chs R) 145) = K4 at *
  clear hc3 hG3 K3
  have hO10 : Own H.length 145 K4 (.msl c 0 L.length) (chs R) := by
    rw [← hP.len, ← hRC]
    exact .row (fun e => by have := congrArg List.length e; rw [hRC, hP.len] at this; simp at this; rw [this] at hLp'; exact absurd hLp' (by decide)) hcH hc4
  refine Awp.frzOwn 10 hO10 t10 ?_
  have hG5 : Grow H (Go.Proofs.Ytlhchnnfgppneaa.Ab.ownK K4 (.msl c 0 L.length)) := hO10.grow (Nat.le_refl _) hG4
  refine Awp.withT (fun T' => T' 0 = .rsl (prs l) ex ∧ T' 1 = iv room ∧ T' 8 = .rsl (chs F) false ∧ T' 9 = .rsl (chs L) false ∧ T' 10 = .rsl (chs R) false) ⟨by (first | (focus (simp only [go_sem, ↓reduceIte, simprocAttr, t0]; first | done | rfl)) | rfl), by (first | (focus (simp only [go_sem, ↓reduceIte, simprocAttr, t1]; first | done | rfl)) | rfl), by (first | (focus (simp only [go_sem, ↓reduceIte, simprocAttr, t8]; first | done | rfl)) | rfl), by (first | (focus (simp only [go_sem, ↓reduceIte, simprocAttr, t9]; first | done | rfl)) | rfl), by (first | (focus (simp only [go_sem, ↓reduceIte, simprocAttr]; first | done | rfl)) | rfl)⟩ ?_
  clear t0 t1 t8 t9 t10 T hO10 hG4 hc4
  rintro T ⟨t0, t1, t8, t9, t10⟩
  generalize Go.Proofs.Ytlhchnnfgppneaa.Ab.ownK K4 (.msl c 0 L.length) = K5 at *
  clear K4
  repeat' ((fail_if_success (apply stopR (id := 17))); (fail_if_success (apply stopS (id := 17))); first | refine spD (fun _ => ?_) (fun _ => ?_) | refine spF (fun _ => ?_) (fun _ => ?_) | (apply gT; (exact rfl)) | (apply off; (exact rfl); (exact rfl)) | (apply condT; (exact rfl)) | (apply condF; (exact rfl)) | ((first | (apply stp0; (exact rfl); (exact rfl)) | (apply stpN0; (exact rfl)) | apply gT | apply condT | ((first | apply bodyQ_d0 | apply bodyQ_d1 | apply bodyQ_d2 | apply bodyQ_d3 | apply bodyQ_d4); (exact .inr rfl); (rw [Try.results45]))); (first | (focus (simp only [go_sem, ↓reduceIte, simprocAttr] <;> rfl)) | exact rfl); (first | (fail_if_success (show okD _ _ _ _ _ _ _ _ _)) | (first | exact okT | exact okN | exact okE rfl)); (first | (fail_if_success (show Bel _ _)) | (focus first | exact .val _ | (simp [oneOf, Bel_iff_tup, Bel_iff_agg, Bel_iff_rsl, Bel_iff_fn, Bel_iff_rptr, Bel_val]; done)))) | refine thenQ_n ?_ | refine thenQ_r ?_ | refine thenQ_e ?_ | refine blockQ_n ?_ | refine blockQ_r ?_ | refine blockQ_e ?_ | (apply blockQ_o; (exact rfl)) | refine Awp.seq ?_ | refine Awp.skip ?_ | refine Awp.block ?_ | refine reg (fun s => s == 12 || s == 14 || s == 17 || s == 18) ?_ | (apply drwE mixed (fun s => s == 12 || s == 14 || s == 17 || s == 18); (kernel_rfl)) | refine fin ?_ | refine Awp.ret ?_ | refine Awp.exit ?_ | ((first | (apply off; (exact rfl)) | apply condF); (first | (focus (simp only [go_sem, ↓reduceIte, simprocAttr] <;> rfl)) | exact rfl)))
  all_goals first | contradiction | skip
  refine Awp.withT (fun T' => T' 0 = .rsl (prs l) ex ∧ T' 1 = iv room ∧ T' 8 = .rsl (chs F) false ∧ T' 9 = .rsl (chs L) false ∧ T' 10 = .rsl (chs R) false ∧ T' 12 = .mptr K5.length 0 0) ⟨by (first | (focus (simp only [go_sem, ↓reduceIte, simprocAttr, t0]; first | done | rfl)) | rfl), by (first | (focus (simp only [go_sem, ↓reduceIte, simprocAttr, t1]; first | done | rfl)) | rfl), by (first | (focus (simp only [go_sem, ↓reduceIte, simprocAttr, t8]; first | done | rfl)) | rfl), by (first | (focus (simp only [go_sem, ↓reduceIte, simprocAttr, t9]; first | done | rfl)) | rfl), by (first | (focus (simp only [go_sem, ↓reduceIte, simprocAttr, t10]; first | done | rfl)) | rfl), by (first | (focus (simp only [go_sem, ↓reduceIte, simprocAttr]; first | done | rfl)) | rfl)⟩ ?_
  clear t0 t1 t8 t9 t10 T
  rintro T ⟨t0, t1, t8, t9, t10, t12⟩
  refine Awp.mono (bestB (half := half) t0 t1 t8 t9 t10 t12 (hG5.app _) hG5.len (get_new _ _) hP hz hFl hLl' hr h12 hF2 hL3) ?_
  clear t0 t1 t8 t9 t10 t12 T hF2 hP
  have htb := hG5.len
  generalize K5.length = tb at *
  clear hG5 K5
  rintro e T K6 ⟨rfl, ⟨t0, t12⟩, hG, x, hx, hT⟩
  refine thenQ_n ?_
  have hfit := hall L x hperm hr.1 hT
  have htop := topL_eq hfit
  have hxb : x.bits < 16777216 := by
    obtain ⟨_, _, _, _, a5⟩ := subs_mem hok hfit.mem.1 (by omega) (by simp [c00])
    simpa [c00] using a5
  rw [htop]
  repeat' ((fail_if_success (apply stopR (id := 29))); (fail_if_success (apply stopS (id := 29))); first | refine spD (fun _ => ?_) (fun _ => ?_) | refine spF (fun _ => ?_) (fun _ => ?_) | (apply gT; (exact rfl)) | (apply off; (exact rfl); (exact rfl)) | (apply condT; (exact rfl)) | (apply condF; (exact rfl)) | ((first | (apply stp0; (exact rfl); (exact rfl)) | (apply stpN0; (exact rfl)) | apply gT | apply condT | ((first | apply bodyQ_d0 | apply bodyQ_d1 | apply bodyQ_d2 | apply bodyQ_d3 | apply bodyQ_d4); (exact .inr rfl); (rw [Try.results45]))); (first | (focus (simp only [go_sem, ↓reduceIte, simprocAttr] <;> rfl)) | exact rfl); (first | (fail_if_success (show okD _ _ _ _ _ _ _ _ _)) | (first | exact okT | exact okN | exact okE rfl)); (first | (fail_if_success (show Bel _ _)) | (focus first | exact .val _ | (simp [oneOf, Bel_iff_tup, Bel_iff_agg, Bel_iff_rsl, Bel_iff_fn, Bel_iff_rptr, Bel_val]; done)))) | refine thenQ_n ?_ | refine thenQ_r ?_ | refine thenQ_e ?_ | refine blockQ_n ?_ | refine blockQ_r ?_ | refine blockQ_e ?_ | (apply blockQ_o; (exact rfl)) | refine Awp.seq ?_ | refine Awp.skip ?_ | refine Awp.block ?_ | refine reg (fun s => s == 12 || s == 14 || s == 17 || s == 18) ?_ | (apply drwE mixed (fun s => s == 12 || s == 14 || s == 17 || s == 18); (kernel_rfl)) | refine fin ?_ | refine Awp.ret ?_ | refine Awp.exit ?_ | ((first | (apply off; (exact rfl)) | apply condF); (first | (focus (simp only [go_sem, ↓reduceIte, simprocAttr] <;> rfl)) | exact rfl)))
  all_goals first | contradiction | skip
  refine Awp.withT (fun T' => T' 0 = .rsl (prs l) ex ∧ T' 12 = .mptr tb 0 0 ∧ T' 19 = nilS) ⟨by (first | (focus (simp only [go_sem, ↓reduceIte, simprocAttr, t0]; first | done | rfl)) | rfl), by (first | (focus (simp only [go_sem, ↓reduceIte, simprocAttr, t12]; first | done | rfl)) | rfl), by (first | (focus (simp only [go_sem, ↓reduceIte, simprocAttr]; first | done | rfl)) | rfl)⟩ ?_
  clear t0 t12 T
  rintro T ⟨t0, t12, t19⟩
  refine Awp.mono (bestC t0 t12 t19 hG htb hx h hxb) ?_
  clear t0 t12 t19 T hG hx
  rintro e T K7 ⟨rfl, t12, hG, hx, hO⟩
  refine thenQ_n ?_
  generalize ha : T 19 = a at *
  repeat' (first | refine spD (fun _ => ?_) (fun _ => ?_) | refine spF (fun _ => ?_) (fun _ => ?_) | (apply gT; (exact rfl)) | (apply off; (exact rfl); (exact rfl)) | (apply condT; (exact rfl)) | (apply condF; (exact rfl)) | ((first | (apply stp0; (exact rfl); (exact rfl)) | (apply stpN0; (exact rfl)) | apply gT | apply condT); (first | (focus (simp only [go_sem, ↓reduceIte, simprocAttr, t12, ha, hx] <;> rfl)) | exact rfl); (first | (fail_if_success (show okD _ _ _ _ _ _ _ _ _)) | (first | exact okT | exact okN | exact okE rfl))) | refine thenQ_n ?_ | refine thenQ_r ?_ | refine thenQ_e ?_ | refine blockQ_n ?_ | refine blockQ_r ?_ | refine blockQ_e ?_ | (apply blockQ_o; (exact rfl)) | refine Awp.seq ?_ | refine Awp.skip ?_ | refine Awp.block ?_ | refine reg (fun s => s == 12 || s == 14 || s == 17 || s == 18) ?_ | (apply drwE mixed (fun s => s == 12 || s == 14 || s == 17 || s == 18); (kernel_rfl)) | refine fin ?_ | refine Awp.ret ?_ | refine Awp.exit ?_ | ((first | (apply off; (exact rfl)) | apply condF); (first | (focus (simp only [go_sem, ↓reduceIte, simprocAttr, t12, ha, hx] <;> rfl)) | exact rfl)))
  all_goals first | contradiction | skip
  exact bodyQ_mk (vs := [a, iv x.worth, iv 0]) (.inr rfl) (by rw [Try.results45]; first | (simp only [go_sem, ↓reduceIte, simprocAttr, ha]; done) | (simp only [go_sem, ↓reduceIte, simprocAttr, ha]; rfl)) (Vs.refl _ _ _) ⟨a, rfl, hO, hG⟩

end Go.Proofs.Ytlhchnnfgppneaa.Ab
