/- Archive: look. -/
import Derived.Test.YtdmgljlabigljaaTW
namespace Go.Proofs.Ytdmgljlabigljaa.Ab
open Go Go.RowKit Go.Proofs
set_option linter.unusedSimpArgs false
set_option linter.unusedVariables false
attribute [local irreducible] Awp wpO thenQ blockQ bodyQ ACalls stepA

theorem filter_app_no {α : Type} {p : α → Bool} {l : List α} {e : α} (h : p e = false) : (l ++ [e]).filter p = l.filter p := by rw [List.filter_append]; simp [h]
theorem filter_app_yes {α : Type} {p : α → Bool} {l : List α} {e : α} (h : p e = true) : (l ++ [e]).filter p = l.filter p ++ [e] := by rw [List.filter_append]; simp [h]

theorem cntL_len (asOf : Int) (L : List Ent) : (cntL asOf L).length ≤ L.length := by
  have h : ∀ (L : List Ent) (st : List Ent × Option Ent), (L.foldl (stepC asOf) st).1.length + (L.foldl (stepC asOf) st).2.toList.length ≤ st.1.length + st.2.toList.length + L.length := by
    intro L
    induction L with
    | nil => intro st; simp
    | cons e L ih =>
      intro st
      rw [List.foldl_cons]
      have h1 := ih (stepC asOf st e)
      have h2 : (stepC asOf st e).1.length + (stepC asOf st e).2.toList.length ≤ st.1.length + st.2.toList.length + 1 := by
        unfold stepC
        split
        · omega
        · split
          · split <;> simp_all
          · simp_all
      simp only [List.length_cons]
      omega
  have := h L ([], none)
  unfold cntL cntS
  rw [List.length_append]
  simpa using this

structure Viw (H K : Hp) (vb : Nat) (lo hi : Int) (q : Qy) (F : List Ent) : Prop where
  ge : H.length ≤ vb
  cell : K[vb]? = some (.cells [[.rsl (ents F) false, iv lo, iv hi, hidF q]] 70)

theorem Own.frz {P : Program} {n : Nat} {rd : Option Nat} {c : Code} {T : Env} {H : Hp} {Q : Exit → Env → Hp → Prop} {lo vb : Nat} {a x y z : AV} {es : List (List AV)} (hv : H[vb]? = some (.cells [[a, x, y, z]] 70)) (hO : Own lo 31 H a es) (hvl : vb < lo) (hfix : ∀ es, a ≠ .rsl es true)
    (h : ∀ K, (∀ j, j < H.length → j < lo → j ≠ vb → K[j]? = H[j]?) → H.length = K.length → K[vb]? = some (.cells [[.rsl es false, x, y, z]] 70) → Awp P n rd c T K Q) : Awp P n rd c T H Q := by
  have hl := (List.getElem?_eq_some_iff.1 hv).1
  cases hO with
  | nil =>
    refine Awp.frzCellNil (k := 0) hv rfl (h _ (fun j _ _ hj => List.getElem?_set_ne (Ne.symm hj)) (by rw [List.length_set]) ?_)
    rw [List.getElem?_set_self hl]; rfl
  | fix => exact absurd rfl (hfix _)
  | row hne hlo hb =>
    refine Awp.frzCell (s := vb) (k := 0) (by omega) hv rfl hb (Nat.le_refl _) (h _ (fun j _ hj hjv => ?_) (by rw [List.length_set, List.length_set]) ?_)
    · rw [List.getElem?_set_ne (Ne.symm hjv), List.getElem?_set_ne (by omega)]
    · rw [List.getElem?_set_self (by rw [List.length_set]; exact hl), List.take_length]; rfl

theorem KQ.ownK {N lo : Nat} {K0 K H1 : Hp} {a : AV} {t : TypeId} {es : List (List AV)} (h : KQ N K0 K H1) (hO : Own lo t K0 a es) (hlo : N + 3 ≤ lo) : KQ N K0 K (ownK H1 a) := by
  cases hO with
  | nil => exact h
  | fix => exact h
  | row hne hl hb =>
    have hk := (List.getElem?_eq_some_iff.1 hb).1
    exact ⟨⟨by show (H1.set _ _)[N]? = _; rw [List.getElem?_set_ne (by omega)]; exact h.kn.k0, by show (H1.set _ _)[N + 1]? = _; rw [List.getElem?_set_ne (by omega)]; exact h.kn.k1, by show (H1.set _ _)[N + 2]? = _; rw [List.getElem?_set_ne (by omega)]; exact h.kn.k2⟩,
      fun x hx hxl => by show (H1.set _ _)[x]? = _; rw [List.getElem?_set_ne (by omega)]; exact h.new x hx hxl⟩
theorem KQ.app {N : Nat} {K0 K H1 : Hp} (h : KQ N K0 K H1) (hN : N + 2 < H1.length) (hl : K.length ≤ H1.length) (X : Hp) : KQ N K0 K (H1 ++ X) :=
  ⟨⟨by rw [List.getElem?_append_left (by omega)]; exact h.kn.k0, by rw [List.getElem?_append_left (by omega)]; exact h.kn.k1, by rw [List.getElem?_append_left (by omega)]; exact h.kn.k2⟩,
    fun x hx hxl => by rw [List.getElem?_append_left (by omega)]; exact h.new x hx hxl⟩
theorem KQ.refl (N : Nat) (K0 K : Hp) : KQ N K0 K K := ⟨⟨rfl, rfl, rfl⟩, fun _ _ _ => rfl⟩
theorem Own.notK {lo x : Nat} {H : Hp} {a : AV} {t : TypeId} {es : List (List AV)} {K : Hp} (h : Own lo t H a es) (hx : H.length ≤ x) : (ownK K a)[x]? = K[x]? := by
  cases h with
  | nil => rfl
  | fix => rfl
  | row hne hl hb =>
    have hk := (List.getElem?_eq_some_iff.1 hb).1
    show (K.set _ _)[x]? = _
    rw [List.getElem?_set_ne (by omega)]

set_option maxRecDepth 8000 in
set_option maxHeartbeats 8000000 in
theorem look_ok (H : Hp) {p b : Nat} {S : List Ser} {L : List Ent} (hA : Arc H p b S L) (hlen : L.length ≤ 1024) (q : Qy) :
    ACalls Try.prog 23 [.mptr p 0 0, .agg q.cs] H fun v K => Grow H K ∧ ((¬ qOK S q ∧ v = .tup [nilP, iv 2]) ∨ (qOK S q ∧ ∃ s vb, S[q.series.toNat]? = some s ∧ v = .tup [.mptr vb 0 0, iv 0] ∧ Viw H K vb s.lo s.hi q (fndL L q))) := by
  have hSl := sers_len S
  have hp := hA.hp
  have hT := fun H => isTime_ok H [q.now, q.asOf, q.frm, q.to] true (by simp [maxLen])
  simp only [ints, List.map_cons, List.map_nil] at hT
  have hv := valid_ok H hp
  have bad : ∀ {T : Env}, T 4 = nilP → T 5 = iv 2 → ¬ qOK S q → bodyQ Try.prog Try.f23 H (fun v K => Grow H K ∧ ((¬ qOK S q ∧ v = .tup [nilP, iv 2]) ∨ (qOK S q ∧ ∃ s vb, S[q.series.toNat]? = some s ∧ v = .tup [.mptr vb 0 0, iv 0] ∧ Viw H K vb s.lo s.hi q (fndL L q)))) .ret T H := fun {T} t4 t5 h => by
    refine bodyQ_mk (vs := [nilP, iv 2]) (.inr rfl) ?_ (Vs.refl _ _ _) ⟨Grow.refl _, .inl ⟨h, rfl⟩⟩
    rw [Try.results23]; first | (simp only [go_sem, ↓reduceIte, simprocAttr, t4, t5]; done) | (simp only [go_sem, ↓reduceIte, simprocAttr, t4, t5]; rfl)
  have hqc : q.cs = [iv q.reader, iv q.now, iv q.asOf, iv q.series, iv q.frm, iv q.to] := rfl
  rw [hqc]
  refine ACalls.of_body Try.func23 rfl (by kernel_rfl) (by rw [Try.ntmps23]; simp) ?_; rw [Try.ntmps23]
  repeat' ((fail_if_success (apply stopR (id := 3))); (fail_if_success (apply stopS (id := 3))); first | refine spD (fun _ => ?_) (fun _ => ?_) | refine spF (fun _ => ?_) (fun _ => ?_) | (apply gT; (exact rfl)) | (apply off; (exact rfl); (exact rfl)) | (apply condT; (exact rfl)) | (apply condF; (exact rfl)) | ((first | (apply stp0; (exact rfl); (exact rfl)) | (apply stpN0; (exact rfl)) | apply gT | apply condT | ((first | apply bodyQ_d0 | apply bodyQ_d1 | apply bodyQ_d2 | apply bodyQ_d3 | apply bodyQ_d4); (exact .inr rfl); (rw [Try.results23]))); (first | (focus (simp only [go_sem, ↓reduceIte, simprocAttr] <;> rfl)) | exact rfl); (first | (fail_if_success (show okD _ _ _ _ _ _ _ _ _)) | (first | exact okT | exact okN | exact okE rfl)); (first | (fail_if_success (show Bel _ _)) | (focus first | exact .val _ | (simp [oneOf, Bel_iff_tup, Bel_iff_agg, Bel_iff_rsl, Bel_iff_fn, Bel_iff_rptr, Bel_val]; done)))) | (apply calTo0; (exact rfl); (iterate 2 (simp only [go_sem, ↓reduceIte, simprocAttr]; rfl)); (first | exact hv); (first | exact okT | exact okN | exact okE rfl)) | refine thenQ_n ?_ | refine thenQ_r ?_ | refine thenQ_e ?_ | refine blockQ_n ?_ | refine blockQ_r ?_ | refine blockQ_e ?_ | (apply blockQ_o; (exact rfl)) | refine Awp.seq ?_ | refine Awp.skip ?_ | refine Awp.block ?_ | refine reg (fun s => s == 6 || s == 7) ?_ | (apply drwE mixed (fun s => s == 6 || s == 7); (kernel_rfl)) | refine fin ?_ | refine Awp.ret ?_ | refine Awp.exit ?_ | ((first | (apply off; (exact rfl)) | apply condF); (first | (focus (simp only [go_sem, ↓reduceIte, simprocAttr] <;> rfl)) | exact rfl)))
  all_goals first | contradiction | skip
  by_cases h1 : q.reader < 0
  · repeat' (first | refine spD (fun _ => ?_) (fun _ => ?_) | refine spF (fun _ => ?_) (fun _ => ?_) | (apply gT; (exact rfl)) | (apply off; (exact rfl); (exact rfl)) | (apply condT; (exact rfl)) | (apply condF; (exact rfl)) | ((first | (apply stp0; (exact rfl); (exact rfl)) | (apply stpN0; (exact rfl)) | apply gT | apply condT); (first | (focus (simp only [go_sem, ↓reduceIte, simprocAttr, h1] <;> rfl)) | exact rfl); (first | (fail_if_success (show okD _ _ _ _ _ _ _ _ _)) | (first | exact okT | exact okN | exact okE rfl))) | refine thenQ_n ?_ | refine thenQ_r ?_ | refine thenQ_e ?_ | refine blockQ_n ?_ | refine blockQ_r ?_ | refine blockQ_e ?_ | (apply blockQ_o; (exact rfl)) | refine Awp.seq ?_ | refine Awp.skip ?_ | refine Awp.block ?_ | refine reg (fun s => s == 6 || s == 7) ?_ | (apply drwE mixed (fun s => s == 6 || s == 7); (kernel_rfl)) | refine fin ?_ | refine Awp.ret ?_ | refine Awp.exit ?_ | ((first | (apply off; (exact rfl)) | apply condF); (first | (focus (simp only [go_sem, ↓reduceIte, simprocAttr, h1] <;> rfl)) | exact rfl)))
    all_goals first | contradiction | skip
    exact bad (by (first | (focus (simp only [go_sem, ↓reduceIte, simprocAttr]; first | done | rfl)) | rfl)) (by (first | (focus (simp only [go_sem, ↓reduceIte, simprocAttr]; first | done | rfl)) | rfl)) (fun h => by have := h.1; omega)
  by_cases h2 : q.reader ≥ 64
  · repeat' (first | refine spD (fun _ => ?_) (fun _ => ?_) | refine spF (fun _ => ?_) (fun _ => ?_) | (apply gT; (exact rfl)) | (apply off; (exact rfl); (exact rfl)) | (apply condT; (exact rfl)) | (apply condF; (exact rfl)) | ((first | (apply stp0; (exact rfl); (exact rfl)) | (apply stpN0; (exact rfl)) | apply gT | apply condT); (first | (focus (simp only [go_sem, ↓reduceIte, simprocAttr, h1, h2] <;> rfl)) | exact rfl); (first | (fail_if_success (show okD _ _ _ _ _ _ _ _ _)) | (first | exact okT | exact okN | exact okE rfl))) | refine thenQ_n ?_ | refine thenQ_r ?_ | refine thenQ_e ?_ | refine blockQ_n ?_ | refine blockQ_r ?_ | refine blockQ_e ?_ | (apply blockQ_o; (exact rfl)) | refine Awp.seq ?_ | refine Awp.skip ?_ | refine Awp.block ?_ | refine reg (fun s => s == 6 || s == 7) ?_ | (apply drwE mixed (fun s => s == 6 || s == 7); (kernel_rfl)) | refine fin ?_ | refine Awp.ret ?_ | refine Awp.exit ?_ | ((first | (apply off; (exact rfl)) | apply condF); (first | (focus (simp only [go_sem, ↓reduceIte, simprocAttr, h1, h2] <;> rfl)) | exact rfl)))
    all_goals first | contradiction | skip
    exact bad (by (first | (focus (simp only [go_sem, ↓reduceIte, simprocAttr]; first | done | rfl)) | rfl)) (by (first | (focus (simp only [go_sem, ↓reduceIte, simprocAttr]; first | done | rfl)) | rfl)) (fun h => by have := h.1; omega)
  cases ht : timesB [q.now, q.asOf, q.frm, q.to] with
  | false =>
    rw [ht] at hT
    repeat' (first | refine spD (fun _ => ?_) (fun _ => ?_) | refine spF (fun _ => ?_) (fun _ => ?_) | (apply gT; (exact rfl)) | (apply off; (exact rfl); (exact rfl)) | (apply condT; (exact rfl)) | (apply condF; (exact rfl)) | ((first | (apply stp0; (exact rfl); (exact rfl)) | (apply stpN0; (exact rfl)) | apply gT | apply condT); (first | (focus (simp only [go_sem, ↓reduceIte, simprocAttr, h1, h2] <;> rfl)) | exact rfl); (first | (fail_if_success (show okD _ _ _ _ _ _ _ _ _)) | (first | exact okT | exact okN | exact okE rfl))) | (apply calTo0; (exact rfl); (iterate 2 (simp only [go_sem, ↓reduceIte, simprocAttr, h1, h2]; rfl)); (first | exact hT _); (first | exact okT | exact okN | exact okE rfl)) | refine thenQ_n ?_ | refine thenQ_r ?_ | refine thenQ_e ?_ | refine blockQ_n ?_ | refine blockQ_r ?_ | refine blockQ_e ?_ | (apply blockQ_o; (exact rfl)) | refine Awp.seq ?_ | refine Awp.skip ?_ | refine Awp.block ?_ | refine reg (fun s => s == 6 || s == 7) ?_ | (apply drwE mixed (fun s => s == 6 || s == 7); (kernel_rfl)) | refine fin ?_ | refine Awp.ret ?_ | refine Awp.exit ?_ | ((first | (apply off; (exact rfl)) | apply condF); (first | (focus (simp only [go_sem, ↓reduceIte, simprocAttr, h1, h2] <;> rfl)) | exact rfl)))
    all_goals first | contradiction | skip
    exact bad (by (first | (focus (simp only [go_sem, ↓reduceIte, simprocAttr]; first | done | rfl)) | rfl)) (by (first | (focus (simp only [go_sem, ↓reduceIte, simprocAttr]; first | done | rfl)) | rfl)) (fun h => by have := h.2.1; rw [ht] at this; cases this)
  | true =>
    rw [ht] at hT
    by_cases h3 : q.series < 0
    · repeat' (first | refine spD (fun _ => ?_) (fun _ => ?_) | refine spF (fun _ => ?_) (fun _ => ?_) | (apply gT; (exact rfl)) | (apply off; (exact rfl); (exact rfl)) | (apply condT; (exact rfl)) | (apply condF; (exact rfl)) | ((first | (apply stp0; (exact rfl); (exact rfl)) | (apply stpN0; (exact rfl)) | apply gT | apply condT); (first | (focus (simp only [go_sem, ↓reduceIte, simprocAttr, h1, h2, h3] <;> rfl)) | exact rfl); (first | (fail_if_success (show okD _ _ _ _ _ _ _ _ _)) | (first | exact okT | exact okN | exact okE rfl))) | (apply calTo0; (exact rfl); (iterate 2 (simp only [go_sem, ↓reduceIte, simprocAttr, h1, h2, h3]; rfl)); (first | exact hT _); (first | exact okT | exact okN | exact okE rfl)) | refine thenQ_n ?_ | refine thenQ_r ?_ | refine thenQ_e ?_ | refine blockQ_n ?_ | refine blockQ_r ?_ | refine blockQ_e ?_ | (apply blockQ_o; (exact rfl)) | refine Awp.seq ?_ | refine Awp.skip ?_ | refine Awp.block ?_ | refine reg (fun s => s == 6 || s == 7) ?_ | (apply drwE mixed (fun s => s == 6 || s == 7); (kernel_rfl)) | refine fin ?_ | refine Awp.ret ?_ | refine Awp.exit ?_ | ((first | (apply off; (exact rfl)) | apply condF); (first | (focus (simp only [go_sem, ↓reduceIte, simprocAttr, h1, h2, h3] <;> rfl)) | exact rfl)))
      all_goals first | contradiction | skip
      exact bad (by (first | (focus (simp only [go_sem, ↓reduceIte, simprocAttr]; first | done | rfl)) | rfl)) (by (first | (focus (simp only [go_sem, ↓reduceIte, simprocAttr]; first | done | rfl)) | rfl)) (fun h => by have := h.2.2.1; omega)
    by_cases h4 : q.series ≥ (S.length : Int)
    · repeat' (first | refine spD (fun _ => ?_) (fun _ => ?_) | refine spF (fun _ => ?_) (fun _ => ?_) | (apply gT; (exact rfl)) | (apply off; (exact rfl); (exact rfl)) | (apply condT; (exact rfl)) | (apply condF; (exact rfl)) | ((first | (apply stp0; (exact rfl); (exact rfl)) | (apply stpN0; (exact rfl)) | apply gT | apply condT); (first | (focus (simp only [go_sem, ↓reduceIte, simprocAttr, h1, h2, h3, h4, hp, hSl] <;> rfl)) | exact rfl); (first | (fail_if_success (show okD _ _ _ _ _ _ _ _ _)) | (first | exact okT | exact okN | exact okE rfl))) | (apply calTo0; (exact rfl); (iterate 2 (simp only [go_sem, ↓reduceIte, simprocAttr, h1, h2, h3, h4, hp, hSl]; rfl)); (first | exact hT _); (first | exact okT | exact okN | exact okE rfl)) | refine thenQ_n ?_ | refine thenQ_r ?_ | refine thenQ_e ?_ | refine blockQ_n ?_ | refine blockQ_r ?_ | refine blockQ_e ?_ | (apply blockQ_o; (exact rfl)) | refine Awp.seq ?_ | refine Awp.skip ?_ | refine Awp.block ?_ | refine reg (fun s => s == 6 || s == 7) ?_ | (apply drwE mixed (fun s => s == 6 || s == 7); (kernel_rfl)) | refine fin ?_ | refine Awp.ret ?_ | refine Awp.exit ?_ | ((first | (apply off; (exact rfl)) | apply condF); (first | (focus (simp only [go_sem, ↓reduceIte, simprocAttr, h1, h2, h3, h4, hp, hSl] <;> rfl)) | exact rfl)))
      all_goals first | contradiction | skip
      exact bad (by (first | (focus (simp only [go_sem, ↓reduceIte, simprocAttr]; first | done | rfl)) | rfl)) (by (first | (focus (simp only [go_sem, ↓reduceIte, simprocAttr]; first | done | rfl)) | rfl)) (fun h => by have := h.2.2.1; omega)
    by_cases h5 : q.frm ≥ q.to
    · repeat' (first | refine spD (fun _ => ?_) (fun _ => ?_) | refine spF (fun _ => ?_) (fun _ => ?_) | (apply gT; (exact rfl)) | (apply off; (exact rfl); (exact rfl)) | (apply condT; (exact rfl)) | (apply condF; (exact rfl)) | ((first | (apply stp0; (exact rfl); (exact rfl)) | (apply stpN0; (exact rfl)) | apply gT | apply condT); (first | (focus (simp only [go_sem, ↓reduceIte, simprocAttr, h1, h2, h3, h4, h5, hp, hSl] <;> rfl)) | exact rfl); (first | (fail_if_success (show okD _ _ _ _ _ _ _ _ _)) | (first | exact okT | exact okN | exact okE rfl))) | (apply calTo0; (exact rfl); (iterate 2 (simp only [go_sem, ↓reduceIte, simprocAttr, h1, h2, h3, h4, h5, hp, hSl]; rfl)); (first | exact hT _); (first | exact okT | exact okN | exact okE rfl)) | refine thenQ_n ?_ | refine thenQ_r ?_ | refine thenQ_e ?_ | refine blockQ_n ?_ | refine blockQ_r ?_ | refine blockQ_e ?_ | (apply blockQ_o; (exact rfl)) | refine Awp.seq ?_ | refine Awp.skip ?_ | refine Awp.block ?_ | refine reg (fun s => s == 6 || s == 7) ?_ | (apply drwE mixed (fun s => s == 6 || s == 7); (kernel_rfl)) | refine fin ?_ | refine Awp.ret ?_ | refine Awp.exit ?_ | ((first | (apply off; (exact rfl)) | apply condF); (first | (focus (simp only [go_sem, ↓reduceIte, simprocAttr, h1, h2, h3, h4, h5, hp, hSl] <;> rfl)) | exact rfl)))
      all_goals first | contradiction | skip
      exact bad (by (first | (focus (simp only [go_sem, ↓reduceIte, simprocAttr]; first | done | rfl)) | rfl)) (by (first | (focus (simp only [go_sem, ↓reduceIte, simprocAttr]; first | done | rfl)) | rfl)) (fun h => by have := h.2.2.2; omega)
    have hok : qOK S q := ⟨by omega, ht, by omega, by omega⟩
    obtain ⟨s, hs⟩ := nth (l := S) (i := q.series.toNat) (by omega)
    repeat' ((fail_if_success (apply stopR (id := 5))); (fail_if_success (apply stopS (id := 5))); first | refine spD (fun _ => ?_) (fun _ => ?_) | refine spF (fun _ => ?_) (fun _ => ?_) | (apply gT; (exact rfl)) | (apply off; (exact rfl); (exact rfl)) | (apply condT; (exact rfl)) | (apply condF; (exact rfl)) | ((first | (apply stp0; (exact rfl); (exact rfl)) | (apply stpN0; (exact rfl)) | apply gT | apply condT | ((first | apply bodyQ_d0 | apply bodyQ_d1 | apply bodyQ_d2 | apply bodyQ_d3 | apply bodyQ_d4); (exact .inr rfl); (rw [Try.results23]))); (first | (focus (simp only [go_sem, ↓reduceIte, simprocAttr, h1, h2, h3, h4, h5, hp, hSl] <;> rfl)) | exact rfl); (first | (fail_if_success (show okD _ _ _ _ _ _ _ _ _)) | (first | exact okT | exact okN | exact okE rfl)); (first | (fail_if_success (show Bel _ _)) | (focus first | exact .val _ | (simp [oneOf, Bel_iff_tup, Bel_iff_agg, Bel_iff_rsl, Bel_iff_fn, Bel_iff_rptr, Bel_val]; done)))) | (apply calTo0; (exact rfl); (iterate 2 (simp only [go_sem, ↓reduceIte, simprocAttr, h1, h2, h3, h4, h5, hp, hSl]; rfl)); (first | exact hT _); (first | exact okT | exact okN | exact okE rfl)) | refine thenQ_n ?_ | refine thenQ_r ?_ | refine thenQ_e ?_ | refine blockQ_n ?_ | refine blockQ_r ?_ | refine blockQ_e ?_ | (apply blockQ_o; (exact rfl)) | refine Awp.seq ?_ | refine Awp.skip ?_ | refine Awp.block ?_ | refine reg (fun s => s == 6 || s == 7) ?_ | (apply drwE mixed (fun s => s == 6 || s == 7); (kernel_rfl)) | refine fin ?_ | refine Awp.ret ?_ | refine Awp.exit ?_ | ((first | (apply off; (exact rfl)) | apply condF); (first | (focus (simp only [go_sem, ↓reduceIte, simprocAttr, h1, h2, h3, h4, h5, hp, hSl] <;> rfl)) | exact rfl)))
    all_goals first | contradiction | skip
    refine Awp.withT (fun T' => T' 0 = .mptr p 0 0 ∧ T' 3 = .rptr q.cs 0) ⟨by (first | (focus (simp only [go_sem, ↓reduceIte, simprocAttr]; first | done | rfl)) | rfl), by (first | (focus (simp only [go_sem, ↓reduceIte, simprocAttr, hqc]; first | done | rfl)) | rfl)⟩ ?_
    rintro T ⟨t0, t3⟩
    refine Awp.seq (Awp.mono (look5 (T0 := T) hp hs (by omega) t0 t3) ?_)
    clear t0 t3 T
    rintro ex T A ⟨rfl, t0, t3, hAG, vb, cb, t6, hvl, hcl, hc, hv⟩
    rw [hqc] at t3
    have hvA := (List.getElem?_eq_some_iff.1 hv).1
    have hcA := (List.getElem?_eq_some_iff.1 hc).1
    simp only [thenQ]
    repeat' (first | refine spD (fun _ => ?_) (fun _ => ?_) | refine spF (fun _ => ?_) (fun _ => ?_) | (apply gT; (exact rfl)) | (apply off; (exact rfl); (exact rfl)) | (apply condT; (exact rfl)) | (apply condF; (exact rfl)) | ((first | (apply stp0; (exact rfl); (exact rfl)) | (apply stpN0; (exact rfl)) | apply gT | apply condT | ((first | apply bodyQ_d0 | apply bodyQ_d1 | apply bodyQ_d2 | apply bodyQ_d3 | apply bodyQ_d4); (exact .inr rfl); (rw [Try.results23]))); (first | (focus (simp only [go_sem, ↓reduceIte, simprocAttr, t0, t3] <;> rfl)) | exact rfl); (first | (fail_if_success (show okD _ _ _ _ _ _ _ _ _)) | (first | exact okT | exact okN | exact okE rfl)); (first | (fail_if_success (show Bel _ _)) | (focus first | exact .val _ | (simp [oneOf, Bel_iff_tup, Bel_iff_agg, Bel_iff_rsl, Bel_iff_fn, Bel_iff_rptr, Bel_val]; done)))) | (apply calTo0; (exact rfl); (iterate 2 (simp only [go_sem, ↓reduceIte, simprocAttr, t0, t3]; rfl)); (first | exact counting_ok _ p q.asOf); (first | exact okT | exact okN | exact okE rfl)) | refine thenQ_n ?_ | refine thenQ_r ?_ | refine thenQ_e ?_ | refine blockQ_n ?_ | refine blockQ_r ?_ | refine blockQ_e ?_ | (apply blockQ_o; (exact rfl)) | refine Awp.seq ?_ | refine Awp.skip ?_ | refine Awp.block ?_ | refine reg (fun s => s == 6 || s == 7) ?_ | (apply drwE mixed (fun s => s == 6 || s == 7); (kernel_rfl)) | refine fin ?_ | refine Awp.ret ?_ | refine Awp.exit ?_ | ((first | (apply off; (exact rfl)) | apply condF); (first | (focus (simp only [go_sem, ↓reduceIte, simprocAttr, t0, t3] <;> rfl)) | exact rfl)))
    all_goals first | contradiction | skip
    refine Awp.withT (fun T' => T' 3 = .rptr [iv q.reader, iv q.now, iv q.asOf, iv q.series, iv q.frm, iv q.to] 0 ∧ T' 6 = .mptr cb 0 0 ∧ T' 69 = .fn (.func 32) [.rptr [.mptr p 0 0] 0, .rptr [iv q.asOf] 0]) ⟨by (first | (focus (simp only [go_sem, ↓reduceIte, simprocAttr, t3]; first | done | rfl)) | rfl), by (first | (focus (simp only [go_sem, ↓reduceIte, simprocAttr, t6]; first | done | rfl)) | rfl), by (first | (focus (simp only [go_sem, ↓reduceIte, simprocAttr]; first | done | rfl)) | rfl)⟩ ?_
    clear t0 t3 t6 T
    rintro T ⟨t3, t6, t69⟩
    refine overCount (p := p) (b := b) (S := S) (L := L) (asOf := q.asOf) hlen (by (first | (focus (simp only [go_sem, ↓reduceIte, simprocAttr, t69]; first | done | rfl)) | rfl)) (by decide)
      (fun j K => Grow H K ∧ K[cb]? = some (.cells [[.mptr vb 0 0]] 65) ∧ ∃ a, K[vb]? = some (.cells [[a, iv s.lo, iv s.hi, hidF q]] 70) ∧ Own (A.length + 4) 31 K a (ents (((cntL q.asOf L).take j).filter (inQ q))) ∧ ∀ es, a ≠ .rsl es true)
      (fun _ => False) (fun j K h => hA.grow h.1) ?_ ?_ (fun ob => ?_) ?_ ?_ ?_
    · rintro j K K' ⟨g1, g2, a, g3, g4, g5⟩ hK
      refine ⟨⟨Nat.le_trans g1.len hK.len, fun x hx => (hK.old x (Nat.lt_of_lt_of_le hx g1.len) (by have := hAG.len; omega) (by have := hAG.len; omega) (by have := hAG.len; omega)).trans (g1.old x hx)⟩, hK.get g2 (.inl (by omega)), a, hK.get g3 (.inl (by omega)), g4.get fun j ob hj h => hK.get h (.inr (by omega)), g5⟩
    · intro K K' h; exact h.elim
    · exact ⟨hAG.app _, (held hc).2.1 _, nilS, (held hv).2.1 _, by rw [List.take_zero]; exact .nil, by intro es h; cases h⟩
    · rintro lp j e K0 K he ⟨g1, g2, a, g3, g4, g5⟩ hl0 hK hKl hlp
      have hlpl := (List.getElem?_eq_some_iff.1 hlp).1
      have hAl := hAG.len
      have k1 : Grow H K := ⟨Nat.le_trans g1.len hK.len, fun x hx => (hK.old x (Nat.lt_of_lt_of_le hx g1.len) (by omega) (by omega) (by omega)).trans (g1.old x hx)⟩
      have k2 := hK.get g2 (.inl (by omega))
      have k3 := hK.get g3 (.inl (by omega))
      have k4 : Own (A.length + 4) 31 K a (ents (((cntL q.asOf L).take j).filter (inQ q))) := g4.get fun j ob hj h => hK.get h (.inr (by omega))
      have hKK := hK.len
      simp only [Ent.av, Ent.cs]
      repeat' (first | refine spD (fun _ => ?_) (fun _ => ?_) | refine spF (fun _ => ?_) (fun _ => ?_) | (apply gT; (exact rfl)) | (apply off; (exact rfl); (exact rfl)) | (apply condT; (exact rfl)) | (apply condF; (exact rfl)) | ((first | (apply stp0; (exact rfl); (exact rfl)) | (apply stpN0; (exact rfl)) | apply gT | apply condT | ((first | apply bodyQ_d0 | apply bodyQ_d1 | apply bodyQ_d2 | apply bodyQ_d3 | apply bodyQ_d4); (exact .inr rfl); (rw [Try.results23]))); (first | (focus (simp only [go_sem, ↓reduceIte, simprocAttr] <;> rfl)) | exact rfl); (first | (fail_if_success (show okD _ _ _ _ _ _ _ _ _)) | (first | exact okT | exact okN | exact okE rfl)); (first | (fail_if_success (show Bel _ _)) | (focus first | exact .val _ | (simp [oneOf, Bel_iff_tup, Bel_iff_agg, Bel_iff_rsl, Bel_iff_fn, Bel_iff_rptr, Bel_val]; done)))) | refine thenQ_n ?_ | refine thenQ_r ?_ | refine thenQ_e ?_ | refine blockQ_n ?_ | refine blockQ_r ?_ | refine blockQ_e ?_ | (apply blockQ_o; (exact rfl)) | refine Awp.seq ?_ | refine Awp.skip ?_ | refine Awp.block ?_ | refine reg (fun s => s == 6 || s == 7) ?_ | (apply drwE mixed (fun s => s == 6 || s == 7); (kernel_rfl)) | refine fin ?_ | refine Awp.ret ?_ | refine Awp.exit ?_ | ((first | (apply off; (exact rfl)) | apply condF); (first | (focus (simp only [go_sem, ↓reduceIte, simprocAttr] <;> rfl)) | exact rfl)))
      all_goals first | contradiction | skip
      refine ⟨rfl, (held hlp).2.1 _, ?_⟩
      refine Awp.withT (fun T' => T' 3 = .rptr [iv q.reader, iv q.now, iv q.asOf, iv q.series, iv q.frm, iv q.to] 0 ∧ T' 6 = .mptr cb 0 0 ∧ T' 7 = .mptr K.length 0 0) ⟨by (first | (focus (simp only [go_sem, ↓reduceIte, simprocAttr, t3]; first | done | rfl)) | rfl), by (first | (focus (simp only [go_sem, ↓reduceIte, simprocAttr, t6]; first | done | rfl)) | rfl), by (first | (focus (simp only [go_sem, ↓reduceIte, simprocAttr]; first | done | rfl)) | rfl)⟩ ?_
      clear t3 t6 t69 T
      rintro T ⟨t3, t6, t7⟩
      have hx : ((K ++ [AObj.cells [e.cs] 31]).set A.length (lp .busy))[K.length]? = some (AObj.cells [e.cs] 31) := by
        rw [List.getElem?_set_ne (by omega)]; exact get_new _ _
      have m2 : ((K ++ [AObj.cells [e.cs] 31]).set A.length (lp .busy))[cb]? = some (.cells [[.mptr vb 0 0]] 65) := by
        rw [List.getElem?_set_ne (by omega)]; exact (held k2).2.1 _
      have m3 : ((K ++ [AObj.cells [e.cs] 31]).set A.length (lp .busy))[vb]? = some (.cells [[a, iv s.lo, iv s.hi, hidF q]] 70) := by
        rw [List.getElem?_set_ne (by omega)]; exact (held k3).2.1 _
      have m4 : Own (A.length + 4) 31 ((K ++ [AObj.cells [e.cs] 31]).set A.length (lp .busy)) a (ents (((cntL q.asOf L).take j).filter (inQ q))) := (k4.app _).setLow (by omega) _
      have mlp : ((K ++ [AObj.cells [e.cs] 31]).set A.length (lp .busy))[A.length]? = some (lp .busy) := List.getElem?_set_self (by rw [List.length_append]; omega)
      have mG : Grow H ((K ++ [AObj.cells [e.cs] 31]).set A.length (lp .busy)) := (k1.app _).set (by omega) _
      have mQ : KQ (A.length + 1) K0 K ((K ++ [AObj.cells [e.cs] 31]).set A.length (lp .busy)) := ((KQ.refl _ _ _).app (by omega) (Nat.le_refl _) _).set (by omega) hl0 _
      have ml : K.length < ((K ++ [AObj.cells [e.cs] 31]).set A.length (lp .busy)).length := by rw [List.length_set, List.length_append, List.length_singleton]; omega
      show Awp Try.prog 101 _ _ T ((K ++ [AObj.cells [e.cs] 31]).set A.length (lp .busy)) _
      generalize ((K ++ [AObj.cells [e.cs] 31]).set A.length (lp .busy)) = K1 at *
      have endN : inQ q e = false → K1[A.length]? = some (lp .busy) ∧ KQ (A.length + 1) K0 K K1 ∧ Grow H (K1.set A.length (lp .ready)) ∧ (K1.set A.length (lp .ready))[cb]? = some (.cells [[.mptr vb 0 0]] 65) ∧ ∃ a, (K1.set A.length (lp .ready))[vb]? = some (.cells [[a, iv s.lo, iv s.hi, hidF q]] 70) ∧ Own (A.length + 4) 31 (K1.set A.length (lp .ready)) a (ents (((cntL q.asOf L).take (j + 1)).filter (inQ q))) ∧ ∀ es, a ≠ .rsl es true := fun h =>
        ⟨mlp, mQ, mG.set (by omega) _, by rw [List.getElem?_set_ne (by omega)]; exact m2, a, by rw [List.getElem?_set_ne (by omega)]; exact m3, by
          rw [List.take_add_one, he, show (some e).toList = [e] from rfl, filter_app_no h]; exact m4.setLow (by omega) _, g5⟩
      have hx' := hx
      simp only [Ent.cs] at hx'
      by_cases c1 : e.series = q.series
      · rw [c1] at hx'
        by_cases c2 : e.time ≥ q.frm
        · by_cases c3 : e.time < q.to
          · have hin : inQ q e = true := by unfold inQ; rw [decide_eq_true_eq]; exact ⟨c1, c2, c3⟩
            have hjl : (((cntL q.asOf L).take j).filter (inQ q)).length ≤ 1024 := Nat.le_trans (List.length_filter_le _ _) (by
              rw [List.length_take]; exact Nat.le_trans (Nat.min_le_right _ _) (Nat.le_trans (cntL_len _ _) hlen))
            have hOR : OwnR (A.length + 4) 31 9 80 K1 a (ents (((cntL q.asOf L).take j).filter (inQ q))) := ⟨m4, ents_nine _, by rw [ents_len]; omega⟩
            repeat' ((fail_if_success (apply stopR (id := 9))); (fail_if_success (apply stopS (id := 9))); first | refine spD (fun _ => ?_) (fun _ => ?_) | refine spF (fun _ => ?_) (fun _ => ?_) | (apply gT; (exact rfl)) | (apply off; (exact rfl); (exact rfl)) | (apply condT; (exact rfl)) | (apply condF; (exact rfl)) | ((first | (apply stp0; (exact rfl); (exact rfl)) | (apply stpN0; (exact rfl)) | apply gT | apply condT | ((first | apply bodyQ_d0 | apply bodyQ_d1 | apply bodyQ_d2 | apply bodyQ_d3 | apply bodyQ_d4); (exact .inr rfl); (rw [Try.results23]))); (first | (focus (simp only [go_sem, ↓reduceIte, simprocAttr, t3, t7, hx', c2, c3, beq_self_eq_true] <;> rfl)) | exact rfl); (first | (fail_if_success (show okD _ _ _ _ _ _ _ _ _)) | (first | exact okT | exact okN | exact okE rfl)); (first | (fail_if_success (show Bel _ _)) | (focus first | exact .val _ | (simp [oneOf, Bel_iff_tup, Bel_iff_agg, Bel_iff_rsl, Bel_iff_fn, Bel_iff_rptr, Bel_val]; done)))) | refine thenQ_n ?_ | refine thenQ_r ?_ | refine thenQ_e ?_ | refine blockQ_n ?_ | refine blockQ_r ?_ | refine blockQ_e ?_ | (apply blockQ_o; (exact rfl)) | refine Awp.seq ?_ | refine Awp.skip ?_ | refine Awp.block ?_ | refine reg (fun s => s == 6 || s == 7) ?_ | (apply drwE mixed (fun s => s == 6 || s == 7); (kernel_rfl)) | refine fin ?_ | refine Awp.ret ?_ | refine Awp.exit ?_ | ((first | (apply off; (exact rfl)) | apply condF); (first | (focus (simp only [go_sem, ↓reduceIte, simprocAttr, t3, t7, hx', c2, c3, beq_self_eq_true] <;> rfl)) | exact rfl)))
            all_goals first | contradiction | skip
            refine Awp.mono (look9 (T0 := _) (q := q) (s := s) (e := e) (a := a) (lo := A.length + 4) (vb := vb) (cb := cb) (xb := K.length) (by (first | (focus (simp only [go_sem, ↓reduceIte, simprocAttr, t6]; first | done | rfl)) | rfl)) (by (first | (focus (simp only [go_sem, ↓reduceIte, simprocAttr, t7]; first | done | rfl)) | rfl)) m2 m3 hx hOR (by omega) (by omega) (g4.notK (by omega))) ?_
            rintro ex T2 K2 ⟨rfl, rfl⟩
            have hvl' : vb < A.length + 4 := by omega
            have hcv : cb ≠ vb := fun e => by rw [e, m3] at m2; exact absurd (AObj.cells.inj (Option.some.inj m2)).2 (by decide)
            have hO4 := m4.next (by omega) e.cs (n := K1.length) (m := (((cntL q.asOf L).take j).filter (inQ q)).length + 1) rfl (by rw [ents_len])
            have hkl := ownK_len K1 a
            have n1 : Grow H (ownK K1 a ++ [AObj.cells (ents (((cntL q.asOf L).take j).filter (inQ q)) ++ [e.cs]) 31]) := (m4.grow (by omega) mG).app _
            have n2 : (ownK K1 a ++ [AObj.cells (ents (((cntL q.asOf L).take j).filter (inQ q)) ++ [e.cs]) 31])[cb]? = some (.cells [[.mptr vb 0 0]] 65) := by rw [List.getElem?_append_left (by omega), ownK_low m4 (by omega)]; exact m2
            have n3 : (ownK K1 a ++ [AObj.cells (ents (((cntL q.asOf L).take j).filter (inQ q)) ++ [e.cs]) 31])[A.length]? = some (lp .busy) := by rw [List.getElem?_append_left (by omega), ownK_low m4 (by omega)]; exact mlp
            have nQ : KQ (A.length + 1) K0 K (ownK K1 a ++ [AObj.cells (ents (((cntL q.asOf L).take j).filter (inQ q)) ++ [e.cs]) 31]) := (mQ.ownK g4 (by omega)).app (by omega) (by omega) _
            have nv : vb < (ownK K1 a ++ [AObj.cells (ents (((cntL q.asOf L).take j).filter (inQ q)) ++ [e.cs]) 31]).length := by rw [List.length_append, hkl]; omega
            rw [ents_len]
            have htk : ents (((cntL q.asOf L).take j).filter (inQ q)) ++ [e.cs] = ents (((cntL q.asOf L).take (j + 1)).filter (inQ q)) := by
              rw [List.take_add_one, he, show (some e).toList = [e] from rfl, filter_app_yes hin]; simp [ents]
            rw [htk] at hO4 n1 n2 n3 nQ nv ⊢
            generalize ownK K1 a ++ [AObj.cells (ents (((cntL q.asOf L).take (j + 1)).filter (inQ q))) 31] = K3 at *
            refine blockQ_n ?_
            refine ⟨by rw [List.getElem?_set_ne (by omega)]; exact n3, nQ.set (by omega) (by omega) _, (n1.set (by omega) _).set (by omega) _, ?_, .msl K1.length 0 ((((cntL q.asOf L).take j).filter (inQ q)).length + 1), ?_, (hO4.setLow hvl' _).setLow (by omega) _, by intro es h; cases h⟩
            · rw [List.getElem?_set_ne (by omega), List.getElem?_set_ne (Ne.symm hcv)]; exact n2
            · rw [List.getElem?_set_ne (by omega)]; exact List.getElem?_set_self nv
          · have hin : inQ q e = false := by unfold inQ; rw [decide_eq_false_iff_not]; exact fun h => c3 h.2.2
            repeat' ((fail_if_success (apply stopR (id := 9))); (fail_if_success (apply stopS (id := 9))); first | refine spD (fun _ => ?_) (fun _ => ?_) | refine spF (fun _ => ?_) (fun _ => ?_) | (apply gT; (exact rfl)) | (apply off; (exact rfl); (exact rfl)) | (apply condT; (exact rfl)) | (apply condF; (exact rfl)) | ((first | (apply stp0; (exact rfl); (exact rfl)) | (apply stpN0; (exact rfl)) | apply gT | apply condT | ((first | apply bodyQ_d0 | apply bodyQ_d1 | apply bodyQ_d2 | apply bodyQ_d3 | apply bodyQ_d4); (exact .inr rfl); (rw [Try.results23]))); (first | (focus (simp only [go_sem, ↓reduceIte, simprocAttr, t3, t7, hx', c2, c3, beq_self_eq_true] <;> rfl)) | exact rfl); (first | (fail_if_success (show okD _ _ _ _ _ _ _ _ _)) | (first | exact okT | exact okN | exact okE rfl)); (first | (fail_if_success (show Bel _ _)) | (focus first | exact .val _ | (simp [oneOf, Bel_iff_tup, Bel_iff_agg, Bel_iff_rsl, Bel_iff_fn, Bel_iff_rptr, Bel_val]; done)))) | refine thenQ_n ?_ | refine thenQ_r ?_ | refine thenQ_e ?_ | refine blockQ_n ?_ | refine blockQ_r ?_ | refine blockQ_e ?_ | (apply blockQ_o; (exact rfl)) | refine Awp.seq ?_ | refine Awp.skip ?_ | refine Awp.block ?_ | refine reg (fun s => s == 6 || s == 7) ?_ | (apply drwE mixed (fun s => s == 6 || s == 7); (kernel_rfl)) | refine fin ?_ | refine Awp.ret ?_ | refine Awp.exit ?_ | ((first | (apply off; (exact rfl)) | apply condF); (first | (focus (simp only [go_sem, ↓reduceIte, simprocAttr, t3, t7, hx', c2, c3, beq_self_eq_true] <;> rfl)) | exact rfl)))
            all_goals first | contradiction | skip
            exact endN hin
        · have hin : inQ q e = false := by unfold inQ; rw [decide_eq_false_iff_not]; exact fun h => c2 h.2.1
          repeat' ((fail_if_success (apply stopR (id := 9))); (fail_if_success (apply stopS (id := 9))); first | refine spD (fun _ => ?_) (fun _ => ?_) | refine spF (fun _ => ?_) (fun _ => ?_) | (apply gT; (exact rfl)) | (apply off; (exact rfl); (exact rfl)) | (apply condT; (exact rfl)) | (apply condF; (exact rfl)) | ((first | (apply stp0; (exact rfl); (exact rfl)) | (apply stpN0; (exact rfl)) | apply gT | apply condT | ((first | apply bodyQ_d0 | apply bodyQ_d1 | apply bodyQ_d2 | apply bodyQ_d3 | apply bodyQ_d4); (exact .inr rfl); (rw [Try.results23]))); (first | (focus (simp only [go_sem, ↓reduceIte, simprocAttr, t3, t7, hx', c2, beq_self_eq_true] <;> rfl)) | exact rfl); (first | (fail_if_success (show okD _ _ _ _ _ _ _ _ _)) | (first | exact okT | exact okN | exact okE rfl)); (first | (fail_if_success (show Bel _ _)) | (focus first | exact .val _ | (simp [oneOf, Bel_iff_tup, Bel_iff_agg, Bel_iff_rsl, Bel_iff_fn, Bel_iff_rptr, Bel_val]; done)))) | refine thenQ_n ?_ | refine thenQ_r ?_ | refine thenQ_e ?_ | refine blockQ_n ?_ | refine blockQ_r ?_ | refine blockQ_e ?_ | (apply blockQ_o; (exact rfl)) | refine Awp.seq ?_ | refine Awp.skip ?_ | refine Awp.block ?_ | refine reg (fun s => s == 6 || s == 7) ?_ | (apply drwE mixed (fun s => s == 6 || s == 7); (kernel_rfl)) | refine fin ?_ | refine Awp.ret ?_ | refine Awp.exit ?_ | ((first | (apply off; (exact rfl)) | apply condF); (first | (focus (simp only [go_sem, ↓reduceIte, simprocAttr, t3, t7, hx', c2, beq_self_eq_true] <;> rfl)) | exact rfl)))
          all_goals first | contradiction | skip
          exact endN hin
      · have hin : inQ q e = false := by unfold inQ; rw [decide_eq_false_iff_not]; exact fun h => c1 h.1
        repeat' ((fail_if_success (apply stopR (id := 9))); (fail_if_success (apply stopS (id := 9))); first | refine spD (fun _ => ?_) (fun _ => ?_) | refine spF (fun _ => ?_) (fun _ => ?_) | (apply gT; (exact rfl)) | (apply off; (exact rfl); (exact rfl)) | (apply condT; (exact rfl)) | (apply condF; (exact rfl)) | ((first | (apply stp0; (exact rfl); (exact rfl)) | (apply stpN0; (exact rfl)) | apply gT | apply condT | ((first | apply bodyQ_d0 | apply bodyQ_d1 | apply bodyQ_d2 | apply bodyQ_d3 | apply bodyQ_d4); (exact .inr rfl); (rw [Try.results23]))); (first | (focus (simp only [go_sem, ↓reduceIte, simprocAttr, t3, t7, hx', c1] <;> rfl)) | exact rfl); (first | (fail_if_success (show okD _ _ _ _ _ _ _ _ _)) | (first | exact okT | exact okN | exact okE rfl)); (first | (fail_if_success (show Bel _ _)) | (focus first | exact .val _ | (simp [oneOf, Bel_iff_tup, Bel_iff_agg, Bel_iff_rsl, Bel_iff_fn, Bel_iff_rptr, Bel_val]; done)))) | refine thenQ_n ?_ | refine thenQ_r ?_ | refine thenQ_e ?_ | refine blockQ_n ?_ | refine blockQ_r ?_ | refine blockQ_e ?_ | (apply blockQ_o; (exact rfl)) | refine Awp.seq ?_ | refine Awp.skip ?_ | refine Awp.block ?_ | refine reg (fun s => s == 6 || s == 7) ?_ | (apply drwE mixed (fun s => s == 6 || s == 7); (kernel_rfl)) | refine fin ?_ | refine Awp.ret ?_ | refine Awp.exit ?_ | ((first | (apply off; (exact rfl)) | apply condF); (first | (focus (simp only [go_sem, ↓reduceIte, simprocAttr, t3, t7, hx', c1] <;> rfl)) | exact rfl)))
        all_goals first | contradiction | skip
        exact endN hin
    · rintro H1 ob ⟨g1, g2, a, g3, g4, g5⟩ hlp
      rw [List.take_length] at g4
      have hAl := hAG.len
      have g1' := g1.set (s := A.length) (by omega) .dead
      have g2' : (H1.set A.length .dead)[cb]? = _ := (List.getElem?_set_ne (by omega)).trans g2
      have g3' : (H1.set A.length .dead)[vb]? = _ := (List.getElem?_set_ne (by omega)).trans g3
      have g4' := g4.setLow (s := A.length) (by omega) .dead
      generalize H1.set A.length .dead = K1 at *
      refine blockQ_n ?_
      simp only [thenQ]
      refine Own.frz g3' g4' (by omega) g5 ?_
      intro K f1 f2 f3
      have hK1l := g1'.len
      have f4 := (f1 cb (List.getElem?_eq_some_iff.1 g2').1 (by omega) (by intro e; rw [e, g3'] at g2'; exact absurd (AObj.cells.inj (Option.some.inj g2')).2 (by decide))).trans g2'
      repeat' (first | refine spD (fun _ => ?_) (fun _ => ?_) | refine spF (fun _ => ?_) (fun _ => ?_) | (apply gT; (exact rfl)) | (apply off; (exact rfl); (exact rfl)) | (apply condT; (exact rfl)) | (apply condF; (exact rfl)) | ((first | (apply stp0; (exact rfl); (exact rfl)) | (apply stpN0; (exact rfl)) | apply gT | apply condT); (first | (focus (simp only [go_sem, ↓reduceIte, simprocAttr, t6, f4] <;> rfl)) | exact rfl); (first | (fail_if_success (show okD _ _ _ _ _ _ _ _ _)) | (first | exact okT | exact okN | exact okE rfl))) | refine thenQ_n ?_ | refine thenQ_r ?_ | refine thenQ_e ?_ | refine blockQ_n ?_ | refine blockQ_r ?_ | refine blockQ_e ?_ | (apply blockQ_o; (exact rfl)) | refine Awp.seq ?_ | refine Awp.skip ?_ | refine Awp.block ?_ | refine reg (fun s => s == 6 || s == 7) ?_ | (apply drwE mixed (fun s => s == 6 || s == 7); (kernel_rfl)) | refine fin ?_ | refine Awp.ret ?_ | refine Awp.exit ?_ | ((first | (apply off; (exact rfl)) | apply condF); (first | (focus (simp only [go_sem, ↓reduceIte, simprocAttr, t6, f4] <;> rfl)) | exact rfl)))
      all_goals first | contradiction | skip
      exact bodyQ_mk (vs := [.mptr vb 0 0, iv 0]) (.inr rfl) (by rw [Try.results23]; first | (simp only [go_sem, ↓reduceIte, simprocAttr]; done) | (simp only [go_sem, ↓reduceIte, simprocAttr]; rfl)) (Vs.refl _ _ _) ⟨⟨by omega, fun x hx => (f1 x (by omega) (by omega) (by omega)).trans (g1'.old x hx)⟩, .inr ⟨hok, s, vb, hs, rfl, ⟨hvl, f3⟩⟩⟩
    · intro H1 h; exact h.elim

end Go.Proofs.Ytdmgljlabigljaa.Ab
