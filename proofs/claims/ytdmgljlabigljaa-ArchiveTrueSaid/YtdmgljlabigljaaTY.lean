/- Archive: the mean of what was found. -/
import Derived.Test.YtdmgljlabigljaaTX
namespace Go.Proofs.Ytdmgljlabigljaa.Ab
open Go Go.RowKit Go.Proofs
set_option linter.unusedSimpArgs false
set_option linter.unusedVariables false
attribute [local irreducible] Awp wpO thenQ blockQ bodyQ ACalls stepA

def sumOf (f : Ent → Int) (F : List Ent) : Int := F.foldl (fun s e => s + f e) 0
theorem sumOf_succ {f : Ent → Int} {F : List Ent} {i : Nat} {e : Ent} (h : F[i]? = some e) : sumOf f (F.take (i + 1)) = sumOf f (F.take i) + f e := by
  unfold sumOf
  rw [List.take_add_one, h, List.foldl_append]; rfl
theorem sumOf_bd {f : Ent → Int} {B : Int} : ∀ {F : List Ent}, (∀ e ∈ F, -B ≤ f e ∧ f e ≤ B) → ∀ s : Int, s - B * F.length ≤ F.foldl (fun s e => s + f e) s ∧ F.foldl (fun s e => s + f e) s ≤ s + B * F.length
  | [], _, s => by simp
  | e :: F, h, s => by
    have h1 := sumOf_bd (F := F) (fun x hx => h x (List.mem_cons_of_mem _ hx)) (s + f e)
    have h2 := h e List.mem_cons_self
    have h3 : B * ((e :: F).length : Int) = B * F.length + B := by rw [List.length_cons, Int.natCast_add, Int.mul_add]; simp
    rw [List.foldl_cons, h3]
    generalize B * (F.length : Int) = X at *
    omega
def vLo (q : Qy) (lo : Int) (e : Ent) : Int := if hidB q e = true then lo else e.lo
def vHi (q : Qy) (hi : Int) (e : Ent) : Int := if hidB q e = true then hi else e.hi
def mnLo (n s : Int) : Int := s.tdiv n - (if s.tmod n < 0 then 1 else 0)
def mnHi (n s : Int) : Int := s.tdiv n + (if s.tmod n > 0 then 1 else 0)
def InB (x : Int) : Prop := -1073741824 ≤ x ∧ x ≤ 1073741824
theorem tdiv_bd {s n : Int} (hn : 1 ≤ n) (h : -1099511627776 ≤ s ∧ s ≤ 1099511627776) : -1099511627776 ≤ s.tdiv n ∧ s.tdiv n ≤ 1099511627776 := by
  rcases Int.le_total 0 s with h0 | h0
  · have e := Int.tdiv_eq_ediv_of_nonneg (a := s) (b := n) h0
    have h1 := Int.ediv_nonneg h0 (show 0 ≤ n by omega)
    have h2 : s / n ≤ s := Int.ediv_le_self _ h0
    omega
  · have e1 : s.tdiv n = -((-s).tdiv n) := by rw [Int.neg_tdiv]; omega
    have e := Int.tdiv_eq_ediv_of_nonneg (a := -s) (b := n) (by omega)
    have h1 := Int.ediv_nonneg (a := -s) (by omega) (show 0 ≤ n by omega)
    have h2 : (-s) / n ≤ -s := Int.ediv_le_self _ (by omega)
    omega

set_option maxRecDepth 8000 in
set_option maxHeartbeats 8000000 in
theorem mean_ok (H : Hp) {vb : Nat} {lo hi : Int} {q : Qy} {F : List Ent} (hv : H[vb]? = some (.cells [[.rsl (ents F) false, iv lo, iv hi, hidF q]] 70)) (hne : F ≠ []) (hlen : F.length ≤ 1024) (hlo : InB lo) (hhi : InB hi) (hF : ∀ e ∈ F, InB e.lo ∧ InB e.hi) :
    ACalls Try.prog 24 [.mptr vb 0 0] H fun v K => Grow H K ∧ v = .agg [iv (mnLo F.length (sumOf (vLo q lo) F)), iv (mnHi F.length (sumOf (vHi q hi) F))] := by
  have hFl := ents_len F
  have hn1 : 1 ≤ F.length := by cases F with
    | nil => exact absurd rfl hne
    | cons => simp
  have bdLo : ∀ i, -1099511627776 ≤ sumOf (vLo q lo) (F.take i) ∧ sumOf (vLo q lo) (F.take i) ≤ 1099511627776 := fun i => by
    have h := sumOf_bd (f := vLo q lo) (B := 1073741824) (F := F.take i) (fun e he => by unfold vLo; split; exact hlo; exact (hF e (List.mem_of_mem_take he)).1) 0
    have h2 : (F.take i).length ≤ 1024 := by rw [List.length_take]; omega
    unfold sumOf
    omega
  have bdHi : ∀ i, -1099511627776 ≤ sumOf (vHi q hi) (F.take i) ∧ sumOf (vHi q hi) (F.take i) ≤ 1099511627776 := fun i => by
    have h := sumOf_bd (f := vHi q hi) (B := 1073741824) (F := F.take i) (fun e he => by unfold vHi; split; exact hhi; exact (hF e (List.mem_of_mem_take he)).2) 0
    have h2 : (F.take i).length ≤ 1024 := by rw [List.length_take]; omega
    unfold sumOf
    omega
  refine ACalls.of_body Try.func24 rfl (by kernel_rfl) (by rw [Try.ntmps24]; simp) ?_; rw [Try.ntmps24]
  have hv1 := fun X => (held hv).2.1 X
  repeat' ((fail_if_success (apply stopR (id := 4))); (fail_if_success (apply stopS (id := 4))); first | refine spD (fun _ => ?_) (fun _ => ?_) | refine spF (fun _ => ?_) (fun _ => ?_) | (apply gT; (exact rfl)) | (apply off; (exact rfl); (exact rfl)) | (apply condT; (exact rfl)) | (apply condF; (exact rfl)) | ((first | (apply stp0; (exact rfl); (exact rfl)) | (apply stpN0; (exact rfl)) | apply gT | apply condT | ((first | apply bodyQ_d0 | apply bodyQ_d1 | apply bodyQ_d2 | apply bodyQ_d3 | apply bodyQ_d4); (exact .inr rfl); (rw [Try.results24]))); (first | (focus (simp only [go_sem, ↓reduceIte, simprocAttr, hv1, hFl] <;> rfl)) | exact rfl); (first | (fail_if_success (show okD _ _ _ _ _ _ _ _ _)) | (first | exact okT | exact okN | exact okE rfl)); (first | (fail_if_success (show Bel _ _)) | (focus first | exact .val _ | (simp [oneOf, Bel_iff_tup, Bel_iff_agg, Bel_iff_rsl, Bel_iff_fn, Bel_iff_rptr, Bel_val]; done)))) | refine thenQ_n ?_ | refine thenQ_r ?_ | refine thenQ_e ?_ | refine blockQ_n ?_ | refine blockQ_r ?_ | refine blockQ_e ?_ | (apply blockQ_o; (exact rfl)) | refine Awp.seq ?_ | refine Awp.skip ?_ | refine Awp.block ?_ | refine reg (fun s => s == 2 || s == 7 || s == 8 || s == 9) ?_ | (apply drwE mixed (fun s => s == 2 || s == 7 || s == 8 || s == 9); (kernel_rfl)) | refine fin ?_ | refine Awp.ret ?_ | refine Awp.exit ?_ | ((first | (apply off; (exact rfl)) | apply condF); (first | (focus (simp only [go_sem, ↓reduceIte, simprocAttr, hv1, hFl] <;> rfl)) | exact rfl)))
  all_goals first | contradiction | skip
  refine Awp.mono (Q := fun e T' K => e = .exit 0 ∧ T' 3 = iv F.length ∧ T' 2 = .mptr H.length 0 0 ∧ T' 4 = iv (sumOf (vLo q lo) F) ∧ T' 5 = iv (sumOf (vHi q hi) F) ∧ Grow H K ∧ K[H.length]? = some (.cells [[iv 0, iv 0]] 29)) ?_ ?_
  · refine Awp.loop (ι := Nat) (fun i T' K => i ≤ F.length ∧ (T' 0 = .mptr vb 0 0 ∧ T' 2 = .mptr H.length 0 0 ∧ T' 3 = iv F.length ∧ T' 4 = iv (sumOf (vLo q lo) (F.take i)) ∧ T' 5 = iv (sumOf (vHi q hi) (F.take i)) ∧ T' 18 = .rsl (ents F) false ∧ T' 19 = iv F.length ∧ T' 20 = iv i) ∧ Grow H K ∧ K[H.length]? = some (.cells [[iv 0, iv 0]] 29)) (fun i => F.length - i) 0 ?_ ?_
    · exact ⟨Nat.zero_le _, ⟨by (first | (focus (simp only [go_sem, ↓reduceIte, simprocAttr]; first | done | rfl)) | rfl), by (first | (focus (simp only [go_sem, ↓reduceIte, simprocAttr]; first | done | rfl)) | rfl), by (first | (focus (simp only [go_sem, ↓reduceIte, simprocAttr, hFl]; first | done | rfl)) | rfl), by (first | (focus (simp only [go_sem, ↓reduceIte, simprocAttr, List.take_zero]; first | done | rfl)) | rfl), by (first | (focus (simp only [go_sem, ↓reduceIte, simprocAttr, List.take_zero]; first | done | rfl)) | rfl), by (first | (focus (simp only [go_sem, ↓reduceIte, simprocAttr, hv1]; first | done | rfl)) | rfl), by (first | (focus (simp only [go_sem, ↓reduceIte, simprocAttr, hFl]; first | done | rfl)) | rfl), by (first | (focus (simp only [go_sem, ↓reduceIte, simprocAttr]; first | done | rfl)) | rfl)⟩, (Grow.refl _).app _, get_new _ _⟩
    rintro i T K ⟨hi2, ⟨t0, t2, t3, t4, t5, t18, t19, t20⟩, hG, hz⟩
    by_cases hil : i < F.length
    · obtain ⟨e, he⟩ := nth hil
      have hec := ents_at he
      have hw := wsucc hil (show F.length ≤ maxLen by simp only [maxLen]; omega)
      have hil2 : (i : Int) < F.length := Int.ofNat_lt.2 hil
      have hi0 : (0 : Int) ≤ i := by omega
      have hvK := hG.get hv
      repeat' ((fail_if_success (apply stopR (id := 7))); (fail_if_success (apply stopS (id := 7))); first | refine spD (fun _ => ?_) (fun _ => ?_) | refine spF (fun _ => ?_) (fun _ => ?_) | (apply gT; (exact rfl)) | (apply off; (exact rfl); (exact rfl)) | (apply condT; (exact rfl)) | (apply condF; (exact rfl)) | ((first | (apply stp0; (exact rfl); (exact rfl)) | (apply stpN0; (exact rfl)) | apply gT | apply condT | ((first | apply bodyQ_d0 | apply bodyQ_d1 | apply bodyQ_d2 | apply bodyQ_d3 | apply bodyQ_d4); (exact .inr rfl); (rw [Try.results24]))); (first | (focus (simp only [go_sem, ↓reduceIte, simprocAttr, t18, t19, t20, hFl, hec, hil2, hi0, Int.toNat_natCast] <;> rfl)) | exact rfl); (first | (fail_if_success (show okD _ _ _ _ _ _ _ _ _)) | (first | exact okT | exact okN | exact okE rfl)); (first | (fail_if_success (show Bel _ _)) | (focus first | exact .val _ | (simp [oneOf, Bel_iff_tup, Bel_iff_agg, Bel_iff_rsl, Bel_iff_fn, Bel_iff_rptr, Bel_val]; done)))) | refine thenQ_n ?_ | refine thenQ_r ?_ | refine thenQ_e ?_ | refine blockQ_n ?_ | refine blockQ_r ?_ | refine blockQ_e ?_ | (apply blockQ_o; (exact rfl)) | refine Awp.seq ?_ | refine Awp.skip ?_ | refine Awp.block ?_ | refine reg (fun s => s == 2 || s == 7 || s == 8 || s == 9) ?_ | (apply drwE mixed (fun s => s == 2 || s == 7 || s == 8 || s == 9); (kernel_rfl)) | refine fin ?_ | refine Awp.ret ?_ | refine Awp.exit ?_ | ((first | (apply off; (exact rfl)) | apply condF); (first | (focus (simp only [go_sem, ↓reduceIte, simprocAttr, t18, t19, t20, hFl, hec, hil2, hi0, Int.toNat_natCast] <;> rfl)) | exact rfl)))
      all_goals first | contradiction | skip
      refine Awp.withT (fun T' => T' 0 = .mptr vb 0 0 ∧ T' 2 = .mptr H.length 0 0 ∧ T' 3 = iv F.length ∧ T' 4 = iv (sumOf (vLo q lo) (F.take i)) ∧ T' 5 = iv (sumOf (vHi q hi) (F.take i)) ∧ T' 18 = .rsl (ents F) false ∧ T' 19 = iv F.length ∧ T' 20 = iv i ∧ T' 7 = .mptr K.length 0 0 ∧ T' 8 = .mptr (K.length + 1) 0 0) ⟨by (first | (focus (simp only [go_sem, ↓reduceIte, simprocAttr, t0]; first | done | rfl)) | rfl), by (first | (focus (simp only [go_sem, ↓reduceIte, simprocAttr, t2]; first | done | rfl)) | rfl), by (first | (focus (simp only [go_sem, ↓reduceIte, simprocAttr, t3]; first | done | rfl)) | rfl), by (first | (focus (simp only [go_sem, ↓reduceIte, simprocAttr, t4]; first | done | rfl)) | rfl), by (first | (focus (simp only [go_sem, ↓reduceIte, simprocAttr, t5]; first | done | rfl)) | rfl), by (first | (focus (simp only [go_sem, ↓reduceIte, simprocAttr, t18]; first | done | rfl)) | rfl), by (first | (focus (simp only [go_sem, ↓reduceIte, simprocAttr, t19]; first | done | rfl)) | rfl), by (first | (focus (simp only [go_sem, ↓reduceIte, simprocAttr, t20]; first | done | rfl)) | rfl), by (first | (focus (simp only [go_sem, ↓reduceIte, simprocAttr]; first | done | rfl)) | rfl), by (first | (focus (simp only [go_sem, ↓reduceIte, simprocAttr, List.length_append, List.length_singleton]; first | done | rfl)) | rfl)⟩ ?_
      clear t0 t2 t3 t4 t5 t18 t19 t20 T
      rintro T ⟨t0, t2, t3, t4, t5, t18, t19, t20, t7, t8⟩
      have a7 : (K ++ [AObj.cells [[iv e.series, iv e.time, iv e.version, iv e.arrived, iv e.owner, iv e.free, iv e.lo, iv e.hi, .val (.string e.cause)]] 31] ++ [AObj.cells [[iv e.lo, iv e.hi]] 29])[K.length]? = some (.cells [[iv e.series, iv e.time, iv e.version, iv e.arrived, iv e.owner, iv e.free, iv e.lo, iv e.hi, .val (.string e.cause)]] 31) := get_new2 _ _ _
      have a8 : (K ++ [AObj.cells [[iv e.series, iv e.time, iv e.version, iv e.arrived, iv e.owner, iv e.free, iv e.lo, iv e.hi, .val (.string e.cause)]] 31] ++ [AObj.cells [[iv e.lo, iv e.hi]] 29])[K.length + 1]? = some (.cells [[iv e.lo, iv e.hi]] 29) := by simp
      have aG := (hG.app [AObj.cells [[iv e.series, iv e.time, iv e.version, iv e.arrived, iv e.owner, iv e.free, iv e.lo, iv e.hi, .val (.string e.cause)]] 31]).app [AObj.cells [[iv e.lo, iv e.hi]] 29]
      have az := (held hz).2.2.1 [AObj.cells [[iv e.series, iv e.time, iv e.version, iv e.arrived, iv e.owner, iv e.free, iv e.lo, iv e.hi, .val (.string e.cause)]] 31] [AObj.cells [[iv e.lo, iv e.hi]] 29]
      have av := (held hvK).2.2.1 [AObj.cells [[iv e.series, iv e.time, iv e.version, iv e.arrived, iv e.owner, iv e.free, iv e.lo, iv e.hi, .val (.string e.cause)]] 31] [AObj.cells [[iv e.lo, iv e.hi]] 29]
      have hKl := hG.len
      generalize K ++ [AObj.cells [[iv e.series, iv e.time, iv e.version, iv e.arrived, iv e.owner, iv e.free, iv e.lo, iv e.hi, .val (.string e.cause)]] 31] ++ [AObj.cells [[iv e.lo, iv e.hi]] 29] = K1 at *
      have b1 := bdLo (i + 1)
      have b2 := bdHi (i + 1)
      have s1 := sumOf_succ (f := vLo q lo) he
      have s2 := sumOf_succ (f := vHi q hi) he
      have hh := fun H => hid_ok H q e
      have hzl := (List.getElem?_eq_some_iff.1 hz).1
      cases hb : hidB q e with
      | true =>
        rw [hb] at hh
        have e1 : vLo q lo e = lo := by unfold vLo; rw [hb]; rfl
        have e2 : vHi q hi e = hi := by unfold vHi; rw [hb]; rfl
        rw [e1] at s1
        rw [e2] at s2
        rw [s1] at b1
        rw [s2] at b2
        have w1 := w64 (x := sumOf (vLo q lo) (F.take i) + lo) (by omega) (by omega)
        have w2 := w64 (x := sumOf (vHi q hi) (F.take i) + hi) (by omega) (by omega)
        have a9 := heldS a8
        repeat' (first | refine spD (fun _ => ?_) (fun _ => ?_) | refine spF (fun _ => ?_) (fun _ => ?_) | (apply gT; (exact rfl)) | (apply off; (exact rfl); (exact rfl)) | (apply condT; (exact rfl)) | (apply condF; (exact rfl)) | ((first | (apply stp0; (exact rfl); (exact rfl)) | (apply stpN0; (exact rfl)) | apply gT | apply condT | ((first | apply bodyQ_d0 | apply bodyQ_d1 | apply bodyQ_d2 | apply bodyQ_d3 | apply bodyQ_d4); (exact .inr rfl); (rw [Try.results24]))); (first | (focus (simp only [go_sem, ↓reduceIte, simprocAttr, t0, t2, t3, t4, t5, t7, t8, t18, t19, t20, av, a7, a8, a9.1, w1, w2, hw] <;> rfl)) | exact rfl); (first | (fail_if_success (show okD _ _ _ _ _ _ _ _ _)) | (first | exact okT | exact okN | exact okE rfl)); (first | (fail_if_success (show Bel _ _)) | (focus first | exact .val _ | (simp [oneOf, Bel_iff_tup, Bel_iff_agg, Bel_iff_rsl, Bel_iff_fn, Bel_iff_rptr, Bel_val]; done)))) | (apply calTo0; (exact rfl); (iterate 2 (simp only [go_sem, ↓reduceIte, simprocAttr, t0, t2, t3, t4, t5, t7, t8, t18, t19, t20, av, a7, a8, a9.1, w1, w2, hw]; rfl)); (first | exact hh _); (first | exact okT | exact okN | exact okE rfl)) | refine thenQ_n ?_ | refine thenQ_r ?_ | refine thenQ_e ?_ | refine blockQ_n ?_ | refine blockQ_r ?_ | refine blockQ_e ?_ | (apply blockQ_o; (exact rfl)) | refine Awp.seq ?_ | refine Awp.skip ?_ | refine Awp.block ?_ | refine reg (fun s => s == 2 || s == 7 || s == 8 || s == 9) ?_ | (apply drwE mixed (fun s => s == 2 || s == 7 || s == 8 || s == 9); (kernel_rfl)) | refine fin ?_ | refine Awp.ret ?_ | refine Awp.exit ?_ | ((first | (apply off; (exact rfl)) | apply condF); (first | (focus (simp only [go_sem, ↓reduceIte, simprocAttr, t0, t2, t3, t4, t5, t7, t8, t18, t19, t20, av, a7, a8, a9.1, w1, w2, hw] <;> rfl)) | exact rfl)))
        all_goals first | contradiction | skip
        exact ⟨i + 1, ⟨by omega, ⟨by (first | (focus (simp only [go_sem, ↓reduceIte, simprocAttr, t0]; first | done | rfl)) | rfl), by (first | (focus (simp only [go_sem, ↓reduceIte, simprocAttr, t2]; first | done | rfl)) | rfl), by (first | (focus (simp only [go_sem, ↓reduceIte, simprocAttr, t3]; first | done | rfl)) | rfl), by (first | (focus (simp only [go_sem, ↓reduceIte, simprocAttr, s1]; first | done | rfl)) | rfl), by (first | (focus (simp only [go_sem, ↓reduceIte, simprocAttr, s2]; first | done | rfl)) | rfl), by (first | (focus (simp only [go_sem, ↓reduceIte, simprocAttr, t18]; first | done | rfl)) | rfl), by (first | (focus (simp only [go_sem, ↓reduceIte, simprocAttr, t19]; first | done | rfl)) | rfl), by (first | (focus (simp only [go_sem, ↓reduceIte, simprocAttr]; first | done | rfl)) | rfl)⟩, aG.set (by omega) _, by rw [List.getElem?_set_ne (by omega)]; exact az⟩, by omega⟩
      | false =>
        rw [hb] at hh
        have e1 : vLo q lo e = e.lo := by unfold vLo; rw [hb]; rfl
        have e2 : vHi q hi e = e.hi := by unfold vHi; rw [hb]; rfl
        rw [e1] at s1
        rw [e2] at s2
        rw [s1] at b1
        rw [s2] at b2
        have w1 := w64 (x := sumOf (vLo q lo) (F.take i) + e.lo) (by omega) (by omega)
        have w2 := w64 (x := sumOf (vHi q hi) (F.take i) + e.hi) (by omega) (by omega)
        repeat' (first | refine spD (fun _ => ?_) (fun _ => ?_) | refine spF (fun _ => ?_) (fun _ => ?_) | (apply gT; (exact rfl)) | (apply off; (exact rfl); (exact rfl)) | (apply condT; (exact rfl)) | (apply condF; (exact rfl)) | ((first | (apply stp0; (exact rfl); (exact rfl)) | (apply stpN0; (exact rfl)) | apply gT | apply condT | ((first | apply bodyQ_d0 | apply bodyQ_d1 | apply bodyQ_d2 | apply bodyQ_d3 | apply bodyQ_d4); (exact .inr rfl); (rw [Try.results24]))); (first | (focus (simp only [go_sem, ↓reduceIte, simprocAttr, t0, t2, t3, t4, t5, t7, t8, t18, t19, t20, av, a7, a8, w1, w2, hw] <;> rfl)) | exact rfl); (first | (fail_if_success (show okD _ _ _ _ _ _ _ _ _)) | (first | exact okT | exact okN | exact okE rfl)); (first | (fail_if_success (show Bel _ _)) | (focus first | exact .val _ | (simp [oneOf, Bel_iff_tup, Bel_iff_agg, Bel_iff_rsl, Bel_iff_fn, Bel_iff_rptr, Bel_val]; done)))) | (apply calTo0; (exact rfl); (iterate 2 (simp only [go_sem, ↓reduceIte, simprocAttr, t0, t2, t3, t4, t5, t7, t8, t18, t19, t20, av, a7, a8, w1, w2, hw]; rfl)); (first | exact hh _); (first | exact okT | exact okN | exact okE rfl)) | refine thenQ_n ?_ | refine thenQ_r ?_ | refine thenQ_e ?_ | refine blockQ_n ?_ | refine blockQ_r ?_ | refine blockQ_e ?_ | (apply blockQ_o; (exact rfl)) | refine Awp.seq ?_ | refine Awp.skip ?_ | refine Awp.block ?_ | refine reg (fun s => s == 2 || s == 7 || s == 8 || s == 9) ?_ | (apply drwE mixed (fun s => s == 2 || s == 7 || s == 8 || s == 9); (kernel_rfl)) | refine fin ?_ | refine Awp.ret ?_ | refine Awp.exit ?_ | ((first | (apply off; (exact rfl)) | apply condF); (first | (focus (simp only [go_sem, ↓reduceIte, simprocAttr, t0, t2, t3, t4, t5, t7, t8, t18, t19, t20, av, a7, a8, w1, w2, hw] <;> rfl)) | exact rfl)))
        all_goals first | contradiction | skip
        exact ⟨i + 1, ⟨by omega, ⟨by (first | (focus (simp only [go_sem, ↓reduceIte, simprocAttr, t0]; first | done | rfl)) | rfl), by (first | (focus (simp only [go_sem, ↓reduceIte, simprocAttr, t2]; first | done | rfl)) | rfl), by (first | (focus (simp only [go_sem, ↓reduceIte, simprocAttr, t3]; first | done | rfl)) | rfl), by (first | (focus (simp only [go_sem, ↓reduceIte, simprocAttr, s1]; first | done | rfl)) | rfl), by (first | (focus (simp only [go_sem, ↓reduceIte, simprocAttr, s2]; first | done | rfl)) | rfl), by (first | (focus (simp only [go_sem, ↓reduceIte, simprocAttr, t18]; first | done | rfl)) | rfl), by (first | (focus (simp only [go_sem, ↓reduceIte, simprocAttr, t19]; first | done | rfl)) | rfl), by (first | (focus (simp only [go_sem, ↓reduceIte, simprocAttr]; first | done | rfl)) | rfl)⟩, aG, az⟩, by omega⟩
    · have hieq : i = F.length := by omega
      have hil2 : ¬ (i : Int) < F.length := by omega
      rw [hieq, List.take_length] at t4 t5
      repeat' (first | refine spD (fun _ => ?_) (fun _ => ?_) | refine spF (fun _ => ?_) (fun _ => ?_) | (apply gT; (exact rfl)) | (apply off; (exact rfl); (exact rfl)) | (apply condT; (exact rfl)) | (apply condF; (exact rfl)) | ((first | (apply stp0; (exact rfl); (exact rfl)) | (apply stpN0; (exact rfl)) | apply gT | apply condT | ((first | apply bodyQ_d0 | apply bodyQ_d1 | apply bodyQ_d2 | apply bodyQ_d3 | apply bodyQ_d4); (exact .inr rfl); (rw [Try.results24]))); (first | (focus (simp only [go_sem, ↓reduceIte, simprocAttr, t19, t20, hil2] <;> rfl)) | exact rfl); (first | (fail_if_success (show okD _ _ _ _ _ _ _ _ _)) | (first | exact okT | exact okN | exact okE rfl)); (first | (fail_if_success (show Bel _ _)) | (focus first | exact .val _ | (simp [oneOf, Bel_iff_tup, Bel_iff_agg, Bel_iff_rsl, Bel_iff_fn, Bel_iff_rptr, Bel_val]; done)))) | refine thenQ_n ?_ | refine thenQ_r ?_ | refine thenQ_e ?_ | refine blockQ_n ?_ | refine blockQ_r ?_ | refine blockQ_e ?_ | (apply blockQ_o; (exact rfl)) | refine Awp.seq ?_ | refine Awp.skip ?_ | refine Awp.block ?_ | refine reg (fun s => s == 2 || s == 7 || s == 8 || s == 9) ?_ | (apply drwE mixed (fun s => s == 2 || s == 7 || s == 8 || s == 9); (kernel_rfl)) | refine fin ?_ | refine Awp.ret ?_ | refine Awp.exit ?_ | ((first | (apply off; (exact rfl)) | apply condF); (first | (focus (simp only [go_sem, ↓reduceIte, simprocAttr, t19, t20, hil2] <;> rfl)) | exact rfl)))
      all_goals first | contradiction | skip
      exact ⟨rfl, by (first | (focus (simp only [go_sem, ↓reduceIte, simprocAttr, t3]; first | done | rfl)) | rfl), by (first | (focus (simp only [go_sem, ↓reduceIte, simprocAttr, t2]; first | done | rfl)) | rfl), by (first | (focus (simp only [go_sem, ↓reduceIte, simprocAttr, t4]; first | done | rfl)) | rfl), by (first | (focus (simp only [go_sem, ↓reduceIte, simprocAttr, t5]; first | done | rfl)) | rfl), hG, hz⟩
  · rintro ex T K ⟨rfl, t3, t2, t4, t5, hG, hz⟩
    have hn : ¬ (F.length : Int) = 0 := by omega
    have b1 := bdLo F.length
    have b2 := bdHi F.length
    rw [List.take_length] at b1 b2
    have d1 := tdiv_bd (n := (F.length : Int)) (by omega) b1
    have d2 := tdiv_bd (n := (F.length : Int)) (by omega) b2
    unfold mnLo mnHi
    generalize sumOf (vLo q lo) F = sl at *
    generalize sumOf (vHi q hi) F = sh at *
    have w1 := w64 (x := sl.tdiv F.length) (by omega) (by omega)
    have w2 := w64 (x := sh.tdiv F.length) (by omega) (by omega)
    have w3 := w64 (x := sl.tdiv F.length - 1) (by omega) (by omega)
    have w4 := w64 (x := sh.tdiv F.length + 1) (by omega) (by omega)
    repeat' ((fail_if_success (apply stopR (id := 12))); (fail_if_success (apply stopS (id := 12))); first | refine spD (fun _ => ?_) (fun _ => ?_) | refine spF (fun _ => ?_) (fun _ => ?_) | (apply gT; (exact rfl)) | (apply off; (exact rfl); (exact rfl)) | (apply condT; (exact rfl)) | (apply condF; (exact rfl)) | ((first | (apply stp0; (exact rfl); (exact rfl)) | (apply stpN0; (exact rfl)) | apply gT | apply condT | ((first | apply bodyQ_d0 | apply bodyQ_d1 | apply bodyQ_d2 | apply bodyQ_d3 | apply bodyQ_d4); (exact .inr rfl); (rw [Try.results24]))); (first | (focus (simp only [go_sem, ↓reduceIte, simprocAttr, t2, t3, t4, t5, hn, w1, w2, ne_eq, not_false_eq_true] <;> rfl)) | exact rfl); (first | (fail_if_success (show okD _ _ _ _ _ _ _ _ _)) | (first | exact okT | exact okN | exact okE rfl)); (first | (fail_if_success (show Bel _ _)) | (focus first | exact .val _ | (simp [oneOf, Bel_iff_tup, Bel_iff_agg, Bel_iff_rsl, Bel_iff_fn, Bel_iff_rptr, Bel_val]; done)))) | refine thenQ_n ?_ | refine thenQ_r ?_ | refine thenQ_e ?_ | refine blockQ_n ?_ | refine blockQ_r ?_ | refine blockQ_e ?_ | (apply blockQ_o; (exact rfl)) | refine Awp.seq ?_ | refine Awp.skip ?_ | refine Awp.block ?_ | refine reg (fun s => s == 2 || s == 7 || s == 8 || s == 9) ?_ | (apply drwE mixed (fun s => s == 2 || s == 7 || s == 8 || s == 9); (kernel_rfl)) | refine fin ?_ | refine Awp.ret ?_ | refine Awp.exit ?_ | ((first | (apply off; (exact rfl)) | apply condF); (first | (focus (simp only [go_sem, ↓reduceIte, simprocAttr, t2, t3, t4, t5, hn, w1, w2, ne_eq, not_false_eq_true] <;> rfl)) | exact rfl)))
    all_goals first | contradiction | skip
    refine Awp.withT (fun T' => T' 2 = .mptr H.length 0 0 ∧ T' 3 = iv F.length ∧ T' 4 = iv sl ∧ T' 5 = iv sh ∧ T' 9 = .mptr K.length 0 0) ⟨by (first | (focus (simp only [go_sem, ↓reduceIte, simprocAttr, t2]; first | done | rfl)) | rfl), by (first | (focus (simp only [go_sem, ↓reduceIte, simprocAttr, t3]; first | done | rfl)) | rfl), by (first | (focus (simp only [go_sem, ↓reduceIte, simprocAttr, t4]; first | done | rfl)) | rfl), by (first | (focus (simp only [go_sem, ↓reduceIte, simprocAttr, t5]; first | done | rfl)) | rfl), by (first | (focus (simp only [go_sem, ↓reduceIte, simprocAttr]; first | done | rfl)) | rfl)⟩ ?_
    clear t2 t3 t4 t5 T
    rintro T ⟨t2, t3, t4, t5, t9⟩
    have a9 := get_new K (AObj.cells [[AV.val (Value.int IntKind.i64 (sl.tdiv ↑F.length)), AV.val (Value.int IntKind.i64 (sh.tdiv ↑F.length))]] 29)
    have az := (held hz).2.1 [AObj.cells [[AV.val (Value.int IntKind.i64 (sl.tdiv ↑F.length)), AV.val (Value.int IntKind.i64 (sh.tdiv ↑F.length))]] 29]
    have aG := hG.app [AObj.cells [[AV.val (Value.int IntKind.i64 (sl.tdiv ↑F.length)), AV.val (Value.int IntKind.i64 (sh.tdiv ↑F.length))]] 29]
    have hKl := hG.len
    have hzl := (List.getElem?_eq_some_iff.1 hz).1
    generalize K ++ [AObj.cells [[AV.val (Value.int IntKind.i64 (sl.tdiv ↑F.length)), AV.val (Value.int IntKind.i64 (sh.tdiv ↑F.length))]] 29] = K1 at *
    have hs9 := heldS a9
    have hsz : ∀ c, (K1.set K.length c)[H.length]? = some (.cells [[iv 0, iv 0]] 29) := fun c => by rw [List.getElem?_set_ne (by omega)]; exact az
    have hsG := fun c => aG.set (s := K.length) (by omega) c
    have fz : ∀ c, (K1.set H.length c)[H.length]? = some c := fun c => (heldS az).1 _
    have fz1 : ∀ c d, ((K1.set K.length d).set H.length c)[H.length]? = some c := fun c d => (heldS (hsz d)).1 _
    by_cases c1 : sl.tmod F.length < 0
    · rw [if_pos c1]
      by_cases c2 : sh.tmod F.length > 0
      · rw [if_pos c2]
        repeat' (first | refine spD (fun _ => ?_) (fun _ => ?_) | refine spF (fun _ => ?_) (fun _ => ?_) | (apply gT; (exact rfl)) | (apply off; (exact rfl); (exact rfl)) | (apply condT; (exact rfl)) | (apply condF; (exact rfl)) | ((first | (apply stp0; (exact rfl); (exact rfl)) | (apply stpN0; (exact rfl)) | apply gT | apply condT); (first | (focus (simp only [go_sem, ↓reduceIte, simprocAttr, t2, t3, t4, t5, t9, a9, az, hs9.1, hs9.2.2.2.2.2.2.2.2.2.1, hsz, hn, c1, c2, w3, w4, ne_eq, not_false_eq_true] <;> rfl)) | exact rfl); (first | (fail_if_success (show okD _ _ _ _ _ _ _ _ _)) | (first | exact okT | exact okN | exact okE rfl))) | refine thenQ_n ?_ | refine thenQ_r ?_ | refine thenQ_e ?_ | refine blockQ_n ?_ | refine blockQ_r ?_ | refine blockQ_e ?_ | (apply blockQ_o; (exact rfl)) | refine Awp.seq ?_ | refine Awp.skip ?_ | refine Awp.block ?_ | refine reg (fun s => s == 2 || s == 7 || s == 8 || s == 9) ?_ | (apply drwE mixed (fun s => s == 2 || s == 7 || s == 8 || s == 9); (kernel_rfl)) | refine fin ?_ | refine Awp.ret ?_ | refine Awp.exit ?_ | ((first | (apply off; (exact rfl)) | apply condF); (first | (focus (simp only [go_sem, ↓reduceIte, simprocAttr, t2, t3, t4, t5, t9, a9, az, hs9.1, hs9.2.2.2.2.2.2.2.2.2.1, hsz, hn, c1, c2, w3, w4, ne_eq, not_false_eq_true] <;> rfl)) | exact rfl)))
        all_goals first | contradiction | skip
        exact bodyQ_mk (vs := [.agg [iv (sl.tdiv F.length - 1), iv (sh.tdiv F.length + 1)]]) (.inr rfl) (by rw [Try.results24]; first | (simp only [go_sem, ↓reduceIte, simprocAttr, t2, fz1]; done) | (simp only [go_sem, ↓reduceIte, simprocAttr, t2, fz1]; rfl)) (Vs.refl _ _ _) ⟨(hsG _).set (Nat.le_refl _) _, rfl⟩
      · rw [if_neg c2]
        repeat' (first | refine spD (fun _ => ?_) (fun _ => ?_) | refine spF (fun _ => ?_) (fun _ => ?_) | (apply gT; (exact rfl)) | (apply off; (exact rfl); (exact rfl)) | (apply condT; (exact rfl)) | (apply condF; (exact rfl)) | ((first | (apply stp0; (exact rfl); (exact rfl)) | (apply stpN0; (exact rfl)) | apply gT | apply condT); (first | (focus (simp only [go_sem, ↓reduceIte, simprocAttr, t2, t3, t4, t5, t9, a9, az, hs9.1, hs9.2.2.2.2.2.2.2.2.2.1, hsz, hn, c1, c2, w3, w4, ne_eq, not_false_eq_true] <;> rfl)) | exact rfl); (first | (fail_if_success (show okD _ _ _ _ _ _ _ _ _)) | (first | exact okT | exact okN | exact okE rfl))) | refine thenQ_n ?_ | refine thenQ_r ?_ | refine thenQ_e ?_ | refine blockQ_n ?_ | refine blockQ_r ?_ | refine blockQ_e ?_ | (apply blockQ_o; (exact rfl)) | refine Awp.seq ?_ | refine Awp.skip ?_ | refine Awp.block ?_ | refine reg (fun s => s == 2 || s == 7 || s == 8 || s == 9) ?_ | (apply drwE mixed (fun s => s == 2 || s == 7 || s == 8 || s == 9); (kernel_rfl)) | refine fin ?_ | refine Awp.ret ?_ | refine Awp.exit ?_ | ((first | (apply off; (exact rfl)) | apply condF); (first | (focus (simp only [go_sem, ↓reduceIte, simprocAttr, t2, t3, t4, t5, t9, a9, az, hs9.1, hs9.2.2.2.2.2.2.2.2.2.1, hsz, hn, c1, c2, w3, w4, ne_eq, not_false_eq_true] <;> rfl)) | exact rfl)))
        all_goals first | contradiction | skip
        exact bodyQ_mk (vs := [.agg [iv (sl.tdiv F.length - 1), iv (sh.tdiv F.length + 0)]]) (.inr rfl) (by rw [Try.results24]; first | (simp only [go_sem, ↓reduceIte, simprocAttr, t2, fz1, Int.add_zero]; done) | (simp only [go_sem, ↓reduceIte, simprocAttr, t2, fz1, Int.add_zero]; rfl)) (Vs.refl _ _ _) ⟨(hsG _).set (Nat.le_refl _) _, rfl⟩
    · rw [if_neg c1]
      by_cases c2 : sh.tmod F.length > 0
      · rw [if_pos c2]
        repeat' (first | refine spD (fun _ => ?_) (fun _ => ?_) | refine spF (fun _ => ?_) (fun _ => ?_) | (apply gT; (exact rfl)) | (apply off; (exact rfl); (exact rfl)) | (apply condT; (exact rfl)) | (apply condF; (exact rfl)) | ((first | (apply stp0; (exact rfl); (exact rfl)) | (apply stpN0; (exact rfl)) | apply gT | apply condT); (first | (focus (simp only [go_sem, ↓reduceIte, simprocAttr, t2, t3, t4, t5, t9, a9, az, hs9.1, hs9.2.2.2.2.2.2.2.2.2.1, hsz, hn, c1, c2, w3, w4, ne_eq, not_false_eq_true] <;> rfl)) | exact rfl); (first | (fail_if_success (show okD _ _ _ _ _ _ _ _ _)) | (first | exact okT | exact okN | exact okE rfl))) | refine thenQ_n ?_ | refine thenQ_r ?_ | refine thenQ_e ?_ | refine blockQ_n ?_ | refine blockQ_r ?_ | refine blockQ_e ?_ | (apply blockQ_o; (exact rfl)) | refine Awp.seq ?_ | refine Awp.skip ?_ | refine Awp.block ?_ | refine reg (fun s => s == 2 || s == 7 || s == 8 || s == 9) ?_ | (apply drwE mixed (fun s => s == 2 || s == 7 || s == 8 || s == 9); (kernel_rfl)) | refine fin ?_ | refine Awp.ret ?_ | refine Awp.exit ?_ | ((first | (apply off; (exact rfl)) | apply condF); (first | (focus (simp only [go_sem, ↓reduceIte, simprocAttr, t2, t3, t4, t5, t9, a9, az, hs9.1, hs9.2.2.2.2.2.2.2.2.2.1, hsz, hn, c1, c2, w3, w4, ne_eq, not_false_eq_true] <;> rfl)) | exact rfl)))
        all_goals first | contradiction | skip
        exact bodyQ_mk (vs := [.agg [iv (sl.tdiv F.length - 0), iv (sh.tdiv F.length + 1)]]) (.inr rfl) (by rw [Try.results24]; first | (simp only [go_sem, ↓reduceIte, simprocAttr, t2, fz1, Int.sub_zero]; done) | (simp only [go_sem, ↓reduceIte, simprocAttr, t2, fz1, Int.sub_zero]; rfl)) (Vs.refl _ _ _) ⟨(hsG _).set (Nat.le_refl _) _, rfl⟩
      · rw [if_neg c2]
        repeat' (first | refine spD (fun _ => ?_) (fun _ => ?_) | refine spF (fun _ => ?_) (fun _ => ?_) | (apply gT; (exact rfl)) | (apply off; (exact rfl); (exact rfl)) | (apply condT; (exact rfl)) | (apply condF; (exact rfl)) | ((first | (apply stp0; (exact rfl); (exact rfl)) | (apply stpN0; (exact rfl)) | apply gT | apply condT); (first | (focus (simp only [go_sem, ↓reduceIte, simprocAttr, t2, t3, t4, t5, t9, a9, az, hs9.1, hs9.2.2.2.2.2.2.2.2.2.1, hsz, hn, c1, c2, w3, w4, ne_eq, not_false_eq_true] <;> rfl)) | exact rfl); (first | (fail_if_success (show okD _ _ _ _ _ _ _ _ _)) | (first | exact okT | exact okN | exact okE rfl))) | refine thenQ_n ?_ | refine thenQ_r ?_ | refine thenQ_e ?_ | refine blockQ_n ?_ | refine blockQ_r ?_ | refine blockQ_e ?_ | (apply blockQ_o; (exact rfl)) | refine Awp.seq ?_ | refine Awp.skip ?_ | refine Awp.block ?_ | refine reg (fun s => s == 2 || s == 7 || s == 8 || s == 9) ?_ | (apply drwE mixed (fun s => s == 2 || s == 7 || s == 8 || s == 9); (kernel_rfl)) | refine fin ?_ | refine Awp.ret ?_ | refine Awp.exit ?_ | ((first | (apply off; (exact rfl)) | apply condF); (first | (focus (simp only [go_sem, ↓reduceIte, simprocAttr, t2, t3, t4, t5, t9, a9, az, hs9.1, hs9.2.2.2.2.2.2.2.2.2.1, hsz, hn, c1, c2, w3, w4, ne_eq, not_false_eq_true] <;> rfl)) | exact rfl)))
        all_goals first | contradiction | skip
        exact bodyQ_mk (vs := [.agg [iv (sl.tdiv F.length - 0), iv (sh.tdiv F.length + 0)]]) (.inr rfl) (by rw [Try.results24]; first | (simp only [go_sem, ↓reduceIte, simprocAttr, t2, fz, Int.sub_zero, Int.add_zero]; done) | (simp only [go_sem, ↓reduceIte, simprocAttr, t2, fz, Int.sub_zero, Int.add_zero]; rfl)) (Vs.refl _ _ _) ⟨aG.set (Nat.le_refl _) _, rfl⟩

end Go.Proofs.Ytdmgljlabigljaa.Ab
