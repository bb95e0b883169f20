/- Best: all choices. -/
import Derived.Test.YtlhchnnfgppneaaR0
namespace Go.Proofs.Ytlhchnnfgppneaa.Ab
open Go Go.RowKit Go.Proofs
set_option linter.unusedSimpArgs false
set_option linter.unusedVariables false
attribute [local irreducible] Awp wpO thenQ blockQ bodyQ ACalls stepA

/-- what is so of a choice to which r more parcels may come, the first of which has the bit h -/
structure ChOk (c : Ch) (h1 r : Nat) : Prop where
  b1 : c.bits % 2 ^ h1 = 0
  b2 : c.bits < 16777216
  w : 0 ≤ c.worth ∧ c.worth + 1048576 * r ≤ 25165824
  s : 0 ≤ c.size ∧ c.size + 16777216 * r ≤ 402653184
theorem dvd_half {x h : Nat} (hx : x % 2 ^ (h + 1) = 0) : x % 2 ^ h = 0 := by
  have : 2 ^ h ∣ x := Nat.dvd_trans ⟨2, by rw [Nat.pow_succ]⟩ (Nat.dvd_of_mod_eq_zero hx)
  exact Nat.mod_eq_zero_of_dvd this
theorem add_lt {x h : Nat} (hx : x % 2 ^ (h + 1) = 0) (hl : x < 16777216) (hh : h ≤ 23) : x + 2 ^ h < 16777216 := by
  have hp := Nat.two_pow_pos h
  obtain ⟨k, hk⟩ := Nat.dvd_of_mod_eq_zero hx
  have e : (16777216 : Nat) = 2 ^ (h + 1) * 2 ^ (23 - h) := by rw [← Nat.pow_add, show h + 1 + (23 - h) = 24 by omega]
  rw [hk, e] at hl
  have hk2 : k < 2 ^ (23 - h) := Nat.lt_of_mul_lt_mul_left hl
  have h3 : 2 ^ (h + 1) * (k + 1) ≤ 2 ^ (h + 1) * 2 ^ (23 - h) := Nat.mul_le_mul_left _ hk2
  rw [hk, e]
  rw [Nat.mul_add, Nat.mul_one] at h3
  have h4 : 2 ^ (h + 1) = 2 ^ h + 2 ^ h := by rw [Nat.pow_succ]; omega
  omega
theorem ChOk.skip {c : Ch} {h r : Nat} (k : ChOk c (h + 1) (r + 1)) : ChOk c h r := ⟨dvd_half k.b1, k.b2, by have := k.w; omega, by have := k.s; omega⟩
theorem ChOk.add {c : Ch} {h r : Nat} {p : Pr} (k : ChOk c (h + 1) (r + 1)) (hh : h ≤ 23) (hp : p.ok) : ChOk (c.add h p) h r := by
  obtain ⟨p1, p2⟩ := hp
  refine ⟨?_, add_lt k.b1 k.b2 hh, by have := k.w; unfold Ch.add; simp only; omega, by have := k.s; unfold Ch.add; simp only; omega⟩
  show (c.bits + 2 ^ h) % 2 ^ h = 0
  rw [Nat.add_mod_right]; exact dvd_half k.b1

def capW (l : List Pr) (ex : Bool) (b5 b6 : Nat) (high : Int) : List AV := [.rptr [.rsl (prs l) ex] 0, .mptr b5 0 0, .mptr b6 0 0, .rptr [iv high] 0]

set_option maxRecDepth 8000 in
set_option maxHeartbeats 4000000 in
theorem walk_ok (l : List Pr) (ex : Bool) (high b5 b6 lo : Nat) (hpl : ∀ p ∈ l, p.ok) (hl : l.length ≤ 12) (hh : l.length ≤ high + 1) (hh2 : high ≤ 23) (h56 : b5 ≠ b6) (h5 : b5 < lo) (h6 : b6 < lo) : ∀ (m i : Nat) (c : Ch) (K : Hp) (a : AV) (v : List Ch), l.length - i = m → i ≤ l.length →
    ChOk c (high + 1 - i) m → v.length + 2 ^ m ≤ 4096 → lo ≤ K.length → K[b5]? = some (.cells [[a]] 141) → Own lo 145 K a (chs v) → K[b6]? = some (.cells [[.fn (.func 107) (capW l ex b5 b6 high)]] 171) →
    ACalls Try.prog 107 [iv i, .agg [.val (.int .u32 c.bits), iv c.worth, iv c.size], .rptr [.rsl (prs l) ex] 0, .mptr b5 0 0, .mptr b6 0 0, .rptr [iv high] 0] K fun v1 K' => v1 = .tup [] ∧ lo ≤ K'.length ∧ (∀ j < lo, j ≠ b5 → K'[j]? = K[j]?) ∧
      ∃ a', K'[b5]? = some (.cells [[a']] 141) ∧ (∃ b n, a' = .msl b 0 n) ∧ Own lo 145 K' a' (chs (v ++ subs (l.drop i) (high - i) c)) := by
  have hpn := prs_len l
  intro m
  induction m with
  | zero =>
    intro i c K a v hm hi hc hv hlo hk5 hO hk6
    have hil : i = l.length := by omega
    subst hil
    have hvl := chs_len v
    have hO2 : OwnR lo 145 3 24 K a (chs v) := ⟨hO, chs_three v, by rw [hvl]; omega⟩
    have hb5 : ∀ X, (ownK K a ++ [X])[b5]? = some (.cells [[a]] 141) := fun X => by
      rw [List.getElem?_append_left (by rw [ownK_len]; omega), ownK_low hO h5]; exact hk5
    have hca := chs_app v c
    have e : subs (l.drop l.length) (high - l.length) c = [c] := by rw [List.drop_length]; rfl
    rw [e]
    refine ACalls.of_body Try.func107 rfl (by kernel_rfl) (by rw [Try.ntmps107]; simp) ?_; rw [Try.ntmps107]
    repeat' (first | refine spD (fun _ => ?_) (fun _ => ?_) | refine spF (fun _ => ?_) (fun _ => ?_) | (apply gT; (exact rfl)) | (apply off; (exact rfl); (exact rfl)) | (apply condT; (exact rfl)) | (apply condF; (exact rfl)) | ((first | (apply stp0; (exact rfl); (exact rfl)) | (apply stpN0; (exact rfl)) | apply gT | apply condT | ((first | apply bodyQ_d0 | apply bodyQ_d1 | apply bodyQ_d2 | apply bodyQ_d3 | apply bodyQ_d4); (exact .inr rfl); (rw [Try.results107]))); (first | (focus (simp only [go_sem, ↓reduceIte, simprocAttr, hpn, hk5, hb5] <;> rfl)) | exact rfl); (first | (fail_if_success (show okD _ _ _ _ _ _ _ _ _)) | (first | exact okT | exact okN | exact okE rfl)); (first | (fail_if_success (show Bel _ _)) | (focus first | exact .val _ | (simp [oneOf, Bel_iff_tup, Bel_iff_agg, Bel_iff_rsl, Bel_iff_fn, Bel_iff_rptr, Bel_val]; done)))) | (apply stpApp; (exact rfl); (first | exact hO2); (iterate 2 (first | (focus (simp only [go_sem, ↓reduceIte, simprocAttr, hpn, hk5, hb5] <;> rfl)) | rfl)); (first | rfl | (simp [AV.isCell]; done)); (first | rfl | (simp; done)); (first | exact ap46 | exact ap75 | exact ap85 | exact ap86 | exact ap90 | exact ap141); (first | exact okT | exact okN | exact okE rfl)) | refine thenQ_n ?_ | refine thenQ_r ?_ | refine thenQ_e ?_ | refine blockQ_n ?_ | refine blockQ_r ?_ | refine blockQ_e ?_ | (apply blockQ_o; (exact rfl)) | refine Awp.seq ?_ | refine Awp.skip ?_ | refine Awp.block ?_ | refine reg (fun s => false) ?_ | (apply drwE mixed (fun s => false); (kernel_rfl)) | refine fin ?_ | refine Awp.ret ?_ | refine Awp.exit ?_ | ((first | (apply off; (exact rfl)) | apply condF); (first | (focus (simp only [go_sem, ↓reduceIte, simprocAttr, hpn, hk5, hb5] <;> rfl)) | exact rfl)))
    all_goals first | contradiction | skip
    refine bodyQ_mk (vs := []) (.inr rfl) (by rw [Try.results107]; first | (simp only [go_sem, ↓reduceIte, simprocAttr]; done) | (simp only [go_sem, ↓reduceIte, simprocAttr]; rfl)) (Vs.refl _ _ _) ⟨rfl, ?_, ?_, .msl K.length 0 ((chs v).length + 1), ?_, ⟨_, _, rfl⟩, ?_⟩
    · rw [List.length_set, List.length_append, ownK_len]; omega
    · intro j hj hne
      rw [List.getElem?_set_ne (Ne.symm hne), List.getElem?_append_left (by rw [ownK_len]; omega), ownK_low hO hj]
    · exact List.getElem?_set_self (by rw [List.length_append, ownK_len]; omega)
    · have := (hO.next hlo [.val (.int .u32 c.bits), iv c.worth, iv c.size] rfl rfl).setLow h5 (.cells [[AV.msl K.length 0 ((chs v).length + 1)]] 141)
      rw [chs_app] at this ⊢
      exact this
  | succ m ih =>
    intro i c K a v hm hi hc hv hlo hk5 hO hk6
    have hil : i < l.length := by omega
    obtain ⟨p, hp⟩ := nth hil
    have hpo := hpl p (List.mem_of_getElem? hp)
    have hpc := prs_at hp
    obtain ⟨h, hhd⟩ : ∃ h, h = high - i := ⟨_, rfl⟩
    have hh23 : h ≤ 23 := by omega
    rw [show high + 1 - i = h + 1 by omega] at hc
    have e1 : high + 1 - (i + 1) = h := by omega
    have e2 : high - (i + 1) = h - 1 := by omega
    have hpw : 2 ^ (m + 1) = 2 ^ m + 2 ^ m := by rw [Nat.pow_succ]; omega
    have hpp := Nat.two_pow_pos m
    have hsub : subs (l.drop i) (high - i) c = subs (l.drop (i + 1)) (h - 1) c ++ subs (l.drop (i + 1)) (h - 1) (c.add h p) := by
      rw [← hhd, List.drop_eq_getElem_cons hil, (List.getElem?_eq_some_iff.1 hp).2]; rfl
    have i1 := ih (i + 1) c K a v (by omega) hil (by rw [e1]; exact hc.skip) (by omega) hlo hk5 hO hk6
    rw [e2] at i1
    have ws : IntKind.i64.wrap ((high : Int) - i) = ((h : Nat) : Int) := by rw [w64 (by omega) (by omega)]; omega
    have wi := wsucc hil (show l.length ≤ maxLen by simp only [maxLen]; omega)
    have hd := hc.add hh23 hpo
    have hsl := shl32 h hh23
    have hp2 : 2 ^ h < 16777216 := Nat.lt_of_le_of_lt (Nat.pow_le_pow_right (by omega) hh23) (by decide)
    have hor := or32 c.bits (2 ^ h) hc.b2 hp2
    rw [or_add hc.b1] at hor
    have ww : IntKind.i64.wrap (c.worth + p.worth) = (c.add h p).worth := by have := hd.w; unfold Ch.add at this ⊢; simp only at this ⊢; exact w64 (by omega) (by omega)
    have wz : IntKind.i64.wrap (c.size + p.size) = (c.add h p).size := by have := hd.s; unfold Ch.add at this ⊢; simp only at this ⊢; exact w64 (by omega) (by omega)
    rw [show c.bits + 2 ^ h = (c.add h p).bits from rfl] at hor
    generalize c.add h p = d at *
    generalize 2 ^ h = z at *
    rw [hsub]
    have hne : ¬ (i : Int) = (l.length : Int) := by omega
    simp only [capW] at hk6
    have hk6' := hk6
    refine ACalls.of_body Try.func107 rfl (by kernel_rfl) (by rw [Try.ntmps107]; simp) ?_; rw [Try.ntmps107]
    repeat' (first | refine spD (fun _ => ?_) (fun _ => ?_) | refine spF (fun _ => ?_) (fun _ => ?_) | (apply gT; (exact rfl)) | (apply off; (exact rfl); (exact rfl)) | (apply condT; (exact rfl)) | (apply condF; (exact rfl)) | ((first | (apply stp0; (exact rfl); (exact rfl)) | (apply stpN0; (exact rfl)) | apply gT | apply condT | ((first | apply bodyQ_d0 | apply bodyQ_d1 | apply bodyQ_d2 | apply bodyQ_d3 | apply bodyQ_d4); (exact .inr rfl); (rw [Try.results107]))); (first | (focus (simp only [go_sem, ↓reduceIte, simprocAttr, hpn, hne, hk6, wi] <;> rfl)) | exact rfl); (first | (fail_if_success (show okD _ _ _ _ _ _ _ _ _)) | (first | exact okT | exact okN | exact okE rfl)); (first | (fail_if_success (show Bel _ _)) | (focus first | exact .val _ | (simp [oneOf, Bel_iff_tup, Bel_iff_agg, Bel_iff_rsl, Bel_iff_fn, Bel_iff_rptr, Bel_val]; done)))) | refine thenQ_n ?_ | refine thenQ_r ?_ | refine thenQ_e ?_ | refine blockQ_n ?_ | refine blockQ_r ?_ | refine blockQ_e ?_ | (apply blockQ_o; (exact rfl)) | refine Awp.seq ?_ | refine Awp.skip ?_ | refine Awp.block ?_ | refine reg (fun s => false) ?_ | (apply drwE mixed (fun s => false); (kernel_rfl)) | refine fin ?_ | refine Awp.ret ?_ | refine Awp.exit ?_ | ((first | (apply off; (exact rfl)) | apply condF); (first | (focus (simp only [go_sem, ↓reduceIte, simprocAttr, hpn, hne, hk6, wi] <;> rfl)) | exact rfl)))
    all_goals first | contradiction | skip
    refine cal rfl rfl rfl ?_ (show ACallV Try.prog (.fn (.func 107) (capW l ex b5 b6 high)) [iv ((i + 1 : Nat) : Int), .agg [.val (.int .u32 c.bits), iv c.worth, iv c.size]] K _ from i1) ?_
    · (first | (focus (simp only [go_sem, ↓reduceIte, simprocAttr, wi]; first | done | rfl)) | rfl)
    rintro v1 K2 ⟨rfl, hlo2, hF2, a2, hk52, _, hO2⟩
    have hk62 : K2[b6]? = some (.cells [[.fn (.func 107) [.rptr [.rsl (prs l) ex] 0, .mptr b5 0 0, .mptr b6 0 0, .rptr [iv high] 0]]] 171) := by rw [hF2 b6 h6 (Ne.symm h56)]; exact hk6
    have i2 := ih (i + 1) d K2 a2 _ (by omega) hil (by rw [e1]; exact hd) (by rw [List.length_append, subs_len, List.length_drop, show l.length - (i + 1) = m by omega]; omega) hlo2 hk52 hO2 hk62
    rw [e2] at i2
    repeat' (first | refine spD (fun _ => ?_) (fun _ => ?_) | refine spF (fun _ => ?_) (fun _ => ?_) | (apply gT; (exact rfl)) | (apply off; (exact rfl); (exact rfl)) | (apply condT; (exact rfl)) | (apply condF; (exact rfl)) | ((first | (apply stp0; (exact rfl); (exact rfl)) | (apply stpN0; (exact rfl)) | apply gT | apply condT | ((first | apply bodyQ_d0 | apply bodyQ_d1 | apply bodyQ_d2 | apply bodyQ_d3 | apply bodyQ_d4); (exact .inr rfl); (rw [Try.results107]))); (first | (focus (simp only [go_sem, ↓reduceIte, simprocAttr, hpn, hpc, hk62, wi, ws, hsl, hor, ww, wz] <;> rfl)) | exact rfl); (first | (fail_if_success (show okD _ _ _ _ _ _ _ _ _)) | (first | exact okT | exact okN | exact okE rfl)); (first | (fail_if_success (show Bel _ _)) | (focus first | exact .val _ | (simp [oneOf, Bel_iff_tup, Bel_iff_agg, Bel_iff_rsl, Bel_iff_fn, Bel_iff_rptr, Bel_val]; done)))) | refine thenQ_n ?_ | refine thenQ_r ?_ | refine thenQ_e ?_ | refine blockQ_n ?_ | refine blockQ_r ?_ | refine blockQ_e ?_ | (apply blockQ_o; (exact rfl)) | refine Awp.seq ?_ | refine Awp.skip ?_ | refine Awp.block ?_ | refine reg (fun s => false) ?_ | (apply drwL mixed (fun s => false) (.of fun _ => false); (exact rfl); (kernel_rfl); (kernel_rfl); simp only [List.pop_toArray, List.dropLast_cons_cons, List.dropLast_singleton, List.map_cons, List.map_nil]) | refine fin ?_ | refine Awp.ret ?_ | refine Awp.exit ?_ | ((first | (apply off; (exact rfl)) | apply condF); (first | (focus (simp only [go_sem, ↓reduceIte, simprocAttr, hpn, hpc, hk62, wi, ws, hsl, hor, ww, wz] <;> rfl)) | exact rfl)))
    all_goals first | contradiction | skip
    refine cal rfl rfl rfl ?_ (show ACallV Try.prog (.fn (.func 107) (capW l ex b5 b6 high)) [iv ((i + 1 : Nat) : Int), .agg [.val (.int .u32 d.bits), iv d.worth, iv d.size]] K2 _ from i2) ?_
    · (first | (focus (simp only [go_sem, ↓reduceIte, simprocAttr, wi]; first | done | rfl)) | rfl)
    rintro v1 K3 ⟨rfl, hlo3, hF3, a3, hk53, hm3, hO3⟩
    repeat' (first | refine spD (fun _ => ?_) (fun _ => ?_) | refine spF (fun _ => ?_) (fun _ => ?_) | (apply gT; (exact rfl)) | (apply off; (exact rfl); (exact rfl)) | (apply condT; (exact rfl)) | (apply condF; (exact rfl)) | ((first | (apply stp0; (exact rfl); (exact rfl)) | (apply stpN0; (exact rfl)) | apply gT | apply condT); (first | (focus (simp only [go_sem, ↓reduceIte, simprocAttr] <;> rfl)) | exact rfl); (first | (fail_if_success (show okD _ _ _ _ _ _ _ _ _)) | (first | exact okT | exact okN | exact okE rfl))) | refine thenQ_n ?_ | refine thenQ_r ?_ | refine thenQ_e ?_ | refine blockQ_n ?_ | refine blockQ_r ?_ | refine blockQ_e ?_ | (apply blockQ_o; (exact rfl)) | refine Awp.seq ?_ | refine Awp.skip ?_ | refine Awp.block ?_ | refine reg (fun s => false) ?_ | (apply drwE mixed (fun s => false); (kernel_rfl)) | refine fin ?_ | refine Awp.ret ?_ | refine Awp.exit ?_ | ((first | (apply off; (exact rfl)) | apply condF); (first | (focus (simp only [go_sem, ↓reduceIte, simprocAttr] <;> rfl)) | exact rfl)))
    all_goals first | contradiction | skip
    refine bodyQ_mk (vs := []) (.inl rfl) (by rw [Try.results107]; first | (simp only [go_sem, ↓reduceIte, simprocAttr]; done) | (simp only [go_sem, ↓reduceIte, simprocAttr]; rfl)) (Vs.refl _ _ _) ⟨rfl, hlo3, fun j hj hne => (hF3 j hj hne).trans (hF2 j hj hne), a3, hk53, hm3, ?_⟩
    rw [← List.append_assoc]; exact hO3

end Go.Proofs.Ytlhchnnfgppneaa.Ab
