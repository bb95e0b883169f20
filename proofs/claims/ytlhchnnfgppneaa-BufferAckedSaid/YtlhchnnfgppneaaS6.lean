/- The program's Ack. -/
import Derived.Test.YtlhchnnfgppneaaS5
namespace Go.Proofs.Ytlhchnnfgppneaa.Ab
open Go Go.RowKit Go.Proofs
set_option linter.unusedSimpArgs false
set_option linter.unusedVariables false
attribute [local irreducible] Awp wpO thenQ blockQ bodyQ ACalls stepA

theorem OrdAt.shape {H : Hp} {a : AV} {ids : List Int} (h : OrdAt H a ids) : ((a = nilS ∨ a = .rsl [] true) ∧ ids = []) ∨ ∃ o m, a = .msl o 0 m ∧ m = ids.length := by
  cases h with
  | nil => exact .inl ⟨.inl rfl, rfl⟩
  | emp => exact .inl ⟨.inr rfl, rfl⟩
  | row hb hn h0 => exact .inr ⟨_, _, rfl, by rw [List.length_take]; omega⟩

/-- what Ack comes to -/
structure AckP (H : Hp) (F : Ft) (w : Rw) (S : Bf) (f : Int → Bool) (K : Hp) (w' : Rw) : Prop where
  rep : Rep K F w' (S.keep f)
  fr : FrO F w H K
  row : ∀ o m, w'.ord = .msl o 0 m → ∃ m', w.ord = .msl o 0 m'

theorem AckD.store {H K : Hp} {F : Ft} {w : Rw} {S : Bf} {f : Int → Bool} {a : AV} (hR : Rep H F w S) (h : AckD H F w S f a K) :
    ∃ cs w', K[F.b]? = some (.cells [cs] 109) ∧ cs.length = 7 ∧ AckP H F w S f (K.set F.b (.cells [cs.set 3 a] 109)) w' := by
  obtain ⟨⟨⟨w1, hR1, h1, h2, h3, h4, q1, q2, q3⟩, hfr⟩, hO, hrow⟩ := h
  rw [midL_all] at h4 q1 q2 q3
  obtain ⟨R2, F2⟩ := hR1.setB w1.used w1.time a
  have hb := hR1.hb
  simp only [Rw.cs] at hb
  refine ⟨_, _, hb, rfl, ⟨R2, h1.trans hR.cap, h4, h2.trans hR.time, ?_, q1, q2, q3⟩, hfr.trans F2, hrow⟩
  exact hO.set hb (by intro v e; simp at e) _

structure Inv7 (H : Hp) (F : Ft) (w : Rw) (S : Bf) (s : List (Int × Int)) (ex : Bool) (n : Nat) (L : Nat → Bool) (T : Env) (K : Hp) : Prop where
  t2 : T 2 = .rptr [.mptr F.b 0 0] 0
  t3 : T 3 = .rptr [.rsl (sps s) ex] 0
  t7 : T 7 = iv n
  i0 : L 0 = true → T 21 = .mptr F.b 0 0
  i1 : L 1 = true → T 22 = .mptr F.b 0 0
  i2 : L 2 = true → T 23 = .mptr F.b 0 0
  i3 : L 3 = true → T 24 = .mptr F.b 0 3
  i4 : L 4 = true → T 25 = w.ord
  i5 : L 5 = true → T 26 = .fn (.func 67) [.rptr [.rsl (sps s) ex] 0, .rptr [.mptr F.b 0 0] 0]
  i7 : L 7 = true → T 28 = .mptr F.b 0 0
  i8 : L 8 = true → T 29 = .mptr F.b 0 3
  a : L 6 = false → K = H
  b : L 6 = true → L 9 = false → AckD H F w S (isInB s) (T 27) K
  c : L 9 = true → ∃ w', AckP H F w S (isInB s) K w'
  j9 : L 9 = true → L 6 = true
  j6 : L 6 = true → L 4 = true

set_option maxRecDepth 8000 in
set_option maxHeartbeats 8000000 in
theorem Ack_ok {H : Hp} {F : Ft} {w : Rw} {S : Bf} (hR : Rep H F w S) (hg : Good S) (s : List (Int × Int)) (ex : Bool) (hc : setC s = 0) (hm : s.length ≤ maxLen) :
    ACalls Try.prog 33 [.mptr F.b 0 0, .rsl (sps s) ex] H fun v1 H1 => v1 = .tup [iv ((S.L.length : Int) - (keepL (isInB s) S.L).length), iv 0] ∧ ∃ w', AckP H F w S (isInB s) H1 w' := by
  have hb := hR.raw.hb
  simp only [Rw.cs] at hb
  have hv := valid_ok hR.raw
  have hck := bcheckSet_ok H s ex
  rw [hc] at hck
  have hlm := hg.len
  have hlen : ∀ {ids : List Int}, ids = idsL S.L → ids.length = S.L.length := fun e => by rw [e]; simp [idsL]
  have hsh := hR.ord.shape
  have hD := del_ok hR hg s ex hc hm
  refine ACalls.of_body Try.func33 rfl (by kernel_rfl) (by rw [Try.ntmps33]; simp) ?_; rw [Try.ntmps33]
  repeat' ((fail_if_success (apply stopR (id := 6))); (fail_if_success (apply stopS (id := 6))); first | refine spD (fun _ => ?_) (fun _ => ?_) | refine spF (fun _ => ?_) (fun _ => ?_) | (apply gT; (exact rfl)) | (apply off; (exact rfl); (exact rfl)) | (apply condT; (exact rfl)) | (apply condF; (exact rfl)) | ((first | (apply stp0; (exact rfl); (exact rfl)) | (apply stpN0; (exact rfl)) | apply gT | apply condT | ((first | apply bodyQ_d0 | apply bodyQ_d1 | apply bodyQ_d2 | apply bodyQ_d3 | apply bodyQ_d4); (exact .inr rfl); (rw [Try.results33]))); (first | (focus (simp only [go_sem, ↓reduceIte, simprocAttr] <;> rfl)) | exact rfl); (first | (fail_if_success (show okD _ _ _ _ _ _ _ _ _)) | (first | exact okT | exact okN | exact okE rfl)); (first | (fail_if_success (show Bel _ _)) | (focus first | exact .val _ | (simp [oneOf, Bel_iff_tup, Bel_iff_agg, Bel_iff_rsl, Bel_iff_fn, Bel_iff_rptr, Bel_val]; done)))) | (apply calTo0; (exact rfl); (iterate 2 (simp only [go_sem, ↓reduceIte, simprocAttr]; rfl)); (first | exact hv | exact hck); (first | exact okT | exact okN | exact okE rfl)) | refine thenQ_n ?_ | refine thenQ_r ?_ | refine thenQ_e ?_ | refine blockQ_n ?_ | refine blockQ_r ?_ | refine blockQ_e ?_ | (apply blockQ_o; (exact rfl)) | refine Awp.seq ?_ | refine Awp.skip ?_ | refine Awp.block ?_ | refine reg (fun s => false) ?_ | (apply drwE mixed (fun s => false); (kernel_rfl)) | refine fin ?_ | refine Awp.ret ?_ | refine Awp.exit ?_ | ((first | (apply off; (exact rfl)) | apply condF); (first | (focus (simp only [go_sem, ↓reduceIte, simprocAttr] <;> rfl)) | exact rfl)))
  all_goals first | contradiction | (exfalso; omega) | skip
  refine Awp.withT (fun T' => T' 2 = .rptr [.mptr F.b 0 0] 0 ∧ T' 3 = .rptr [.rsl (sps s) ex] 0) ⟨?_, ?_⟩ ?_
  · (first | (focus (simp only [go_sem, ↓reduceIte, simprocAttr]; first | done | rfl)) | rfl)
  · (first | (focus (simp only [go_sem, ↓reduceIte, simprocAttr]; first | done | rfl)) | rfl)
  rintro T ⟨t2, t3⟩
  refine Awp.seq (Awp.mono (Q := fun e T K => e = .normal ∧ K = H ∧ T 2 = .rptr [.mptr F.b 0 0] 0 ∧ T 3 = .rptr [.rsl (sps s) ex] 0 ∧ T 7 = iv S.L.length) ?_ ?_)
  · rcases hsh with ⟨eo, ei⟩ | ⟨o, m, eo, em⟩
    · have h0 := hlen ei.symm
      rcases eo with eo | eo
      · rw [eo] at hb
        repeat' (first | refine spD (fun _ => ?_) (fun _ => ?_) | refine spF (fun _ => ?_) (fun _ => ?_) | (apply gT; (exact rfl)) | (apply off; (exact rfl); (exact rfl)) | (apply condT; (exact rfl)) | (apply condF; (exact rfl)) | ((first | (apply stp0; (exact rfl); (exact rfl)) | (apply stpN0; (exact rfl)) | apply gT | apply condT | ((first | apply bodyQ_d0 | apply bodyQ_d1 | apply bodyQ_d2 | apply bodyQ_d3 | apply bodyQ_d4); (exact .inr rfl); (rw [Try.results33]))); (first | (focus (simp only [go_sem, ↓reduceIte, simprocAttr, t2, t3, hb] <;> rfl)) | exact rfl); (first | (fail_if_success (show okD _ _ _ _ _ _ _ _ _)) | (first | exact okT | exact okN | exact okE rfl)); (first | (fail_if_success (show Bel _ _)) | (focus first | exact .val _ | (simp [oneOf, Bel_iff_tup, Bel_iff_agg, Bel_iff_rsl, Bel_iff_fn, Bel_iff_rptr, Bel_val]; done)))) | refine thenQ_n ?_ | refine thenQ_r ?_ | refine thenQ_e ?_ | refine blockQ_n ?_ | refine blockQ_r ?_ | refine blockQ_e ?_ | (apply blockQ_o; (exact rfl)) | refine Awp.seq ?_ | refine Awp.skip ?_ | refine Awp.block ?_ | refine reg (fun s => false) ?_ | (apply drwE mixed (fun s => false); (kernel_rfl)) | refine fin ?_ | refine Awp.ret ?_ | refine Awp.exit ?_ | ((first | (apply off; (exact rfl)) | apply condF); (first | (focus (simp only [go_sem, ↓reduceIte, simprocAttr, t2, t3, hb] <;> rfl)) | exact rfl)))
        all_goals first | contradiction | (exfalso; omega) | skip
        refine ⟨rfl, rfl, ?_, ?_, ?_⟩
        · (first | (focus (simp only [go_sem, ↓reduceIte, simprocAttr, t2]; first | done | rfl)) | rfl)
        · (first | (focus (simp only [go_sem, ↓reduceIte, simprocAttr, t3]; first | done | rfl)) | rfl)
        · rw [← h0]; (first | (focus (simp only [go_sem, ↓reduceIte, simprocAttr]; first | done | rfl)) | rfl)
      · rw [eo] at hb
        repeat' (first | refine spD (fun _ => ?_) (fun _ => ?_) | refine spF (fun _ => ?_) (fun _ => ?_) | (apply gT; (exact rfl)) | (apply off; (exact rfl); (exact rfl)) | (apply condT; (exact rfl)) | (apply condF; (exact rfl)) | ((first | (apply stp0; (exact rfl); (exact rfl)) | (apply stpN0; (exact rfl)) | apply gT | apply condT | ((first | apply bodyQ_d0 | apply bodyQ_d1 | apply bodyQ_d2 | apply bodyQ_d3 | apply bodyQ_d4); (exact .inr rfl); (rw [Try.results33]))); (first | (focus (simp only [go_sem, ↓reduceIte, simprocAttr, t2, t3, hb] <;> rfl)) | exact rfl); (first | (fail_if_success (show okD _ _ _ _ _ _ _ _ _)) | (first | exact okT | exact okN | exact okE rfl)); (first | (fail_if_success (show Bel _ _)) | (focus first | exact .val _ | (simp [oneOf, Bel_iff_tup, Bel_iff_agg, Bel_iff_rsl, Bel_iff_fn, Bel_iff_rptr, Bel_val]; done)))) | refine thenQ_n ?_ | refine thenQ_r ?_ | refine thenQ_e ?_ | refine blockQ_n ?_ | refine blockQ_r ?_ | refine blockQ_e ?_ | (apply blockQ_o; (exact rfl)) | refine Awp.seq ?_ | refine Awp.skip ?_ | refine Awp.block ?_ | refine reg (fun s => false) ?_ | (apply drwE mixed (fun s => false); (kernel_rfl)) | refine fin ?_ | refine Awp.ret ?_ | refine Awp.exit ?_ | ((first | (apply off; (exact rfl)) | apply condF); (first | (focus (simp only [go_sem, ↓reduceIte, simprocAttr, t2, t3, hb] <;> rfl)) | exact rfl)))
        all_goals first | contradiction | (exfalso; omega) | skip
        refine ⟨rfl, rfl, ?_, ?_, ?_⟩
        · (first | (focus (simp only [go_sem, ↓reduceIte, simprocAttr, t2]; first | done | rfl)) | rfl)
        · (first | (focus (simp only [go_sem, ↓reduceIte, simprocAttr, t3]; first | done | rfl)) | rfl)
        · rw [← h0]; (first | (focus (simp only [go_sem, ↓reduceIte, simprocAttr]; first | done | rfl)) | rfl)
    · have h0 := hlen (rfl : idsL S.L = idsL S.L)
      rw [eo] at hb
      repeat' (first | refine spD (fun _ => ?_) (fun _ => ?_) | refine spF (fun _ => ?_) (fun _ => ?_) | (apply gT; (exact rfl)) | (apply off; (exact rfl); (exact rfl)) | (apply condT; (exact rfl)) | (apply condF; (exact rfl)) | ((first | (apply stp0; (exact rfl); (exact rfl)) | (apply stpN0; (exact rfl)) | apply gT | apply condT | ((first | apply bodyQ_d0 | apply bodyQ_d1 | apply bodyQ_d2 | apply bodyQ_d3 | apply bodyQ_d4); (exact .inr rfl); (rw [Try.results33]))); (first | (focus (simp only [go_sem, ↓reduceIte, simprocAttr, t2, t3, hb] <;> rfl)) | exact rfl); (first | (fail_if_success (show okD _ _ _ _ _ _ _ _ _)) | (first | exact okT | exact okN | exact okE rfl)); (first | (fail_if_success (show Bel _ _)) | (focus first | exact .val _ | (simp [oneOf, Bel_iff_tup, Bel_iff_agg, Bel_iff_rsl, Bel_iff_fn, Bel_iff_rptr, Bel_val]; done)))) | refine thenQ_n ?_ | refine thenQ_r ?_ | refine thenQ_e ?_ | refine blockQ_n ?_ | refine blockQ_r ?_ | refine blockQ_e ?_ | (apply blockQ_o; (exact rfl)) | refine Awp.seq ?_ | refine Awp.skip ?_ | refine Awp.block ?_ | refine reg (fun s => false) ?_ | (apply drwE mixed (fun s => false); (kernel_rfl)) | refine fin ?_ | refine Awp.ret ?_ | refine Awp.exit ?_ | ((first | (apply off; (exact rfl)) | apply condF); (first | (focus (simp only [go_sem, ↓reduceIte, simprocAttr, t2, t3, hb] <;> rfl)) | exact rfl)))
      all_goals first | contradiction | (exfalso; omega) | skip
      refine ⟨rfl, rfl, ?_, ?_, ?_⟩
      · (first | (focus (simp only [go_sem, ↓reduceIte, simprocAttr, t2]; first | done | rfl)) | rfl)
      · (first | (focus (simp only [go_sem, ↓reduceIte, simprocAttr, t3]; first | done | rfl)) | rfl)
      · rw [← h0, ← em]; (first | (focus (simp only [go_sem, ↓reduceIte, simprocAttr]; first | done | rfl)) | rfl)
  rintro e T K ⟨rfl, rfl, t2, t3, t7⟩
  refine thenQ_n ?_
  refine Awp.seq (Awp.mono (Q := fun e T' K' => e = .normal ∧ T' 2 = .rptr [.mptr F.b 0 0] 0 ∧ T' 7 = iv S.L.length ∧ ∃ w', AckP K F w S (isInB s) K' w') ?_ ?_)
  · refine Awp.anyInvO mixed (Inv7 K F w S s ex S.L.length) (by kernel_rfl) ?_ ?_ (fun L T J hL hI => ⟨rfl, hI.t2, hI.t7, hI.c (hL 9 (by decide))⟩)
    · exact ⟨t2, t3, t7, by simp, by simp, by simp, by simp, by simp, by simp, by simp, by simp, fun _ => rfl, by simp, by simp, by simp, by simp⟩
    simp only [AllIx]
    clear t2 t3 t7 T
    refine ⟨?_, ?_, ?_, ?_, ?_, ?_, ?_, ?_, ?_, ?_, trivial⟩
    all_goals
      intro L T J hL hp ⟨t2, t3, t7, i0, i1, i2, i3, i4, i5, i7, i8, ia, ib, ic, j9, j6⟩
      simp [Region.binds] at hp
    · refine OpOK.step (mu := fun _ => false) (by simp only [go_sem, ↓reduceIte, simprocAttr, t2]; rfl) ?_
      constructor <;> simp_all [setL, putA, upd]
    · refine OpOK.step (mu := fun _ => false) (by simp only [go_sem, ↓reduceIte, simprocAttr, t2]; rfl) ?_
      constructor <;> simp_all [setL, putA, upd]
    · have k0 := i1 (by simp [hp])
      refine OpOK.step (mu := fun _ => false) (by simp only [go_sem, ↓reduceIte, simprocAttr, k0]; rfl) ?_
      constructor <;> simp_all [setL, putA, upd]
    · have k0 := i2 (by simp [hp])
      refine OpOK.step (mu := fun _ => false) (by simp only [go_sem, ↓reduceIte, simprocAttr, k0]; rfl) ?_
      constructor <;> simp_all [setL, putA, upd]
    · have k0 := i3 (by simp [hp])
      have e6 : L 6 = false := by cases k : L 6 with | false => rfl | true => rw [j6 k] at hL; cases hL
      have eK := ia e6
      rw [eK]
      refine OpOK.step (mu := fun _ => false) (by simp only [go_sem, ↓reduceIte, simprocAttr, k0, hb]; rfl) ?_
      constructor <;> simp_all [setL, putA, upd]
    · refine OpOK.step (mu := fun _ => false) (by simp only [go_sem, ↓reduceIte, simprocAttr, t2, t3]; rfl) ?_
      constructor <;> simp_all [setL, putA, upd]
    · have k4 := i4 (by simp [hp])
      have k5 := i5 (by simp [hp])
      have e9 : L 9 = false := by cases k : L 9 with | false => rfl | true => rw [j9 k] at hL; cases hL
      have eK := ia hL
      rw [eK]
      refine OpOK.call rfl (show ACallV Try.prog (evA T (.func 66)) [evA T (.tmp 25), evA T (.tmp 26)] K _ from ?_)
      rw [show evA T (.tmp 25) = w.ord from k4, show evA T (.tmp 26) = _ from k5]
      refine ACallV.mono (show ACallV Try.prog (.fn (.func 66) []) _ K _ from hD) fun v K1 hA => ?_
      constructor <;> simp_all [setL, putA, upd]
    · have k0 := i0 (by simp [hp])
      refine OpOK.step (mu := fun _ => false) (by simp only [go_sem, ↓reduceIte, simprocAttr, k0]; rfl) ?_
      constructor <;> simp_all [setL, putA, upd]
    · have k0 := i7 (by simp [hp])
      refine OpOK.step (mu := fun _ => false) (by simp only [go_sem, ↓reduceIte, simprocAttr, k0]; rfl) ?_
      constructor <;> simp_all [setL, putA, upd]
    · have k8 := i8 (by simp [hp])
      have e6 : L 6 = true := by simp [hp]
      have hA := ib e6 hL
      obtain ⟨cs, w', h1, h2, h3⟩ := hA.store hR
      have hcell : (T 27).cells = [T 27] ∧ AV.isCell (T 27) = true := by
        rcases hA.ord.shape with ⟨e | e, _⟩ | ⟨o, m, e, _⟩ <;> rw [e] <;> exact ⟨rfl, rfl⟩
      match cs, h2 with
      | [c0, c1, c2, c3, c4, c5, c6], _ =>
      refine OpOK.step (mu := fun _ => false) (v := .val undef) (H' := J.set F.b (.cells [[c0, c1, c2, T 27, c4, c5, c6]] 109)) (by
        rcases hA.ord.shape with ⟨e | e, _⟩ | ⟨o, m, e, _⟩ <;> rw [e] <;> simp only [go_sem, ↓reduceIte, simprocAttr, k8, h1, e] <;> rfl) ?_
      constructor <;> first | exact fun _ => ⟨w', h3⟩ | simp_all [setL, putA, upd]
  rintro e T J ⟨rfl, t2, t7, w', hP⟩
  have hb2 := hP.rep.raw.hb
  simp only [Rw.cs] at hb2
  refine thenQ_n ?_
  rcases hP.rep.ord.shape with ⟨eo, ei⟩ | ⟨o, m, eo, em⟩
  · have h0 : (keepL (isInB s) S.L).length = 0 := by rw [show (keepL (isInB s) S.L).length = (idsL (S.keep (isInB s)).L).length by simp [idsL, Bf.keep], ei]; rfl
    have ww : IntKind.i64.wrap ((S.L.length : Int) - ((0 : Nat) : Int)) = (S.L.length : Int) - ((0 : Nat) : Int) := w64 (by omega) (by omega)
    have ww0 : IntKind.i64.wrap ((S.L.length : Int) - 0) = (S.L.length : Int) - 0 := ww
    rcases eo with eo | eo
    · rw [eo] at hb2
      repeat' (first | refine spD (fun _ => ?_) (fun _ => ?_) | refine spF (fun _ => ?_) (fun _ => ?_) | (apply gT; (exact rfl)) | (apply off; (exact rfl); (exact rfl)) | (apply condT; (exact rfl)) | (apply condF; (exact rfl)) | ((first | (apply stp0; (exact rfl); (exact rfl)) | (apply stpN0; (exact rfl)) | apply gT | apply condT); (first | (focus (simp only [go_sem, ↓reduceIte, simprocAttr, t2, t7, hb2, ww, ww0] <;> rfl)) | exact rfl); (first | (fail_if_success (show okD _ _ _ _ _ _ _ _ _)) | (first | exact okT | exact okN | exact okE rfl))) | refine thenQ_n ?_ | refine thenQ_r ?_ | refine thenQ_e ?_ | refine blockQ_n ?_ | refine blockQ_r ?_ | refine blockQ_e ?_ | (apply blockQ_o; (exact rfl)) | refine Awp.seq ?_ | refine Awp.skip ?_ | refine Awp.block ?_ | refine reg (fun s => false) ?_ | (apply drwE mixed (fun s => false); (kernel_rfl)) | refine fin ?_ | refine Awp.ret ?_ | refine Awp.exit ?_ | ((first | (apply off; (exact rfl)) | apply condF); (first | (focus (simp only [go_sem, ↓reduceIte, simprocAttr, t2, t7, hb2, ww, ww0] <;> rfl)) | exact rfl)))
      all_goals first | contradiction | (exfalso; omega) | skip
      exact bodyQ_mk (vs := [iv ((S.L.length : Int) - ((0 : Nat) : Int)), iv 0]) (.inr rfl) (by rw [Try.results33]; simp only [go_sem, ↓reduceIte, simprocAttr, ww, ww0]) (Vs.refl _ _ _) ⟨by rw [h0]; rfl, w', hP⟩
    · rw [eo] at hb2
      repeat' (first | refine spD (fun _ => ?_) (fun _ => ?_) | refine spF (fun _ => ?_) (fun _ => ?_) | (apply gT; (exact rfl)) | (apply off; (exact rfl); (exact rfl)) | (apply condT; (exact rfl)) | (apply condF; (exact rfl)) | ((first | (apply stp0; (exact rfl); (exact rfl)) | (apply stpN0; (exact rfl)) | apply gT | apply condT); (first | (focus (simp only [go_sem, ↓reduceIte, simprocAttr, t2, t7, hb2, ww, ww0] <;> rfl)) | exact rfl); (first | (fail_if_success (show okD _ _ _ _ _ _ _ _ _)) | (first | exact okT | exact okN | exact okE rfl))) | refine thenQ_n ?_ | refine thenQ_r ?_ | refine thenQ_e ?_ | refine blockQ_n ?_ | refine blockQ_r ?_ | refine blockQ_e ?_ | (apply blockQ_o; (exact rfl)) | refine Awp.seq ?_ | refine Awp.skip ?_ | refine Awp.block ?_ | refine reg (fun s => false) ?_ | (apply drwE mixed (fun s => false); (kernel_rfl)) | refine fin ?_ | refine Awp.ret ?_ | refine Awp.exit ?_ | ((first | (apply off; (exact rfl)) | apply condF); (first | (focus (simp only [go_sem, ↓reduceIte, simprocAttr, t2, t7, hb2, ww, ww0] <;> rfl)) | exact rfl)))
      all_goals first | contradiction | (exfalso; omega) | skip
      exact bodyQ_mk (vs := [iv ((S.L.length : Int) - ((0 : Nat) : Int)), iv 0]) (.inr rfl) (by rw [Try.results33]; simp only [go_sem, ↓reduceIte, simprocAttr, ww, ww0]) (Vs.refl _ _ _) ⟨by rw [h0]; rfl, w', hP⟩
  · rw [eo] at hb2
    have h0 : (keepL (isInB s) S.L).length = m := by rw [em]; simp [idsL, Bf.keep]
    have h1 : (keepL (isInB s) S.L).length ≤ S.L.length := List.length_filter_le _ _
    have ww : IntKind.i64.wrap ((S.L.length : Int) - m) = (S.L.length : Int) - m := w64 (by omega) (by omega)
    repeat' (first | refine spD (fun _ => ?_) (fun _ => ?_) | refine spF (fun _ => ?_) (fun _ => ?_) | (apply gT; (exact rfl)) | (apply off; (exact rfl); (exact rfl)) | (apply condT; (exact rfl)) | (apply condF; (exact rfl)) | ((first | (apply stp0; (exact rfl); (exact rfl)) | (apply stpN0; (exact rfl)) | apply gT | apply condT); (first | (focus (simp only [go_sem, ↓reduceIte, simprocAttr, t2, t7, hb2, ww] <;> rfl)) | exact rfl); (first | (fail_if_success (show okD _ _ _ _ _ _ _ _ _)) | (first | exact okT | exact okN | exact okE rfl))) | refine thenQ_n ?_ | refine thenQ_r ?_ | refine thenQ_e ?_ | refine blockQ_n ?_ | refine blockQ_r ?_ | refine blockQ_e ?_ | (apply blockQ_o; (exact rfl)) | refine Awp.seq ?_ | refine Awp.skip ?_ | refine Awp.block ?_ | refine reg (fun s => false) ?_ | (apply drwE mixed (fun s => false); (kernel_rfl)) | refine fin ?_ | refine Awp.ret ?_ | refine Awp.exit ?_ | ((first | (apply off; (exact rfl)) | apply condF); (first | (focus (simp only [go_sem, ↓reduceIte, simprocAttr, t2, t7, hb2, ww] <;> rfl)) | exact rfl)))
    all_goals first | contradiction | (exfalso; omega) | skip
    exact bodyQ_mk (vs := [iv ((S.L.length : Int) - m), iv 0]) (.inr rfl) (by rw [Try.results33]; simp only [go_sem, ↓reduceIte, simprocAttr, ww]) (Vs.refl _ _ _) ⟨by rw [h0]; rfl, w', hP⟩

set_option maxRecDepth 8000 in
theorem Ack_err {H : Hp} {F : Ft} {w : Rw} {S : Bf} (hR : Rep H F w S) (s : List (Int × Int)) (ex : Bool) (hc : setC s ≠ 0) :
    ACalls Try.prog 33 [.mptr F.b 0 0, .rsl (sps s) ex] H fun v1 H1 => v1 = .tup [iv 0, iv (setC s)] ∧ H1 = H := by
  have hv := valid_ok hR.raw
  have hck := bcheckSet_ok H s ex
  refine ACalls.of_body Try.func33 rfl (by kernel_rfl) (by rw [Try.ntmps33]; simp) ?_; rw [Try.ntmps33]
  repeat' (first | refine spD (fun _ => ?_) (fun _ => ?_) | refine spF (fun _ => ?_) (fun _ => ?_) | (apply gT; (exact rfl)) | (apply off; (exact rfl); (exact rfl)) | (apply condT; (exact rfl)) | (apply condF; (exact rfl)) | ((first | (apply stp0; (exact rfl); (exact rfl)) | (apply stpN0; (exact rfl)) | apply gT | apply condT); (first | (focus (simp only [go_sem, ↓reduceIte, simprocAttr, hc] <;> rfl)) | exact rfl); (first | (fail_if_success (show okD _ _ _ _ _ _ _ _ _)) | (first | exact okT | exact okN | exact okE rfl))) | (apply calTo0; (exact rfl); (iterate 2 (simp only [go_sem, ↓reduceIte, simprocAttr, hc]; rfl)); (first | exact hv | exact hck); (first | exact okT | exact okN | exact okE rfl)) | refine thenQ_n ?_ | refine thenQ_r ?_ | refine thenQ_e ?_ | refine blockQ_n ?_ | refine blockQ_r ?_ | refine blockQ_e ?_ | (apply blockQ_o; (exact rfl)) | refine Awp.seq ?_ | refine Awp.skip ?_ | refine Awp.block ?_ | refine reg (fun s => false) ?_ | (apply drwE mixed (fun s => false); (kernel_rfl)) | refine fin ?_ | refine Awp.ret ?_ | refine Awp.exit ?_ | ((first | (apply off; (exact rfl)) | apply condF); (first | (focus (simp only [go_sem, ↓reduceIte, simprocAttr, hc] <;> rfl)) | exact rfl)))
  all_goals first | contradiction | (exfalso; omega) | skip
  exact bodyQ_mk (vs := [iv 0, iv (setC s)]) (.inr rfl) (by rw [Try.results33]; simp only [go_sem, ↓reduceIte, simprocAttr]) (Vs.refl _ _ _) ⟨rfl, rfl⟩

end Go.Proofs.Ytlhchnnfgppneaa.Ab
