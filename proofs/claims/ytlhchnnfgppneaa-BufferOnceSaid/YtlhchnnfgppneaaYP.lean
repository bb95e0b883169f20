/- Buffers: Burst. The law BufferOnce: its rounds, what memory holds, a shift. The law BufferOnce: the records of a round are put. -/
import Derived.Test.YtlhchnnfgppneaaYO
import Derived.Test.YtlhchnnfgppneaaYK
import Derived.Test.YtlhchnnfgppneaaYJ
namespace Go.Proofs.Ytlhchnnfgppneaa.Ab
open Go Go.RowKit Go.Proofs
set_option linter.unusedSimpArgs false
set_option linter.unusedVariables false
attribute [local irreducible] Awp wpO thenQ blockQ bodyQ ACalls stepA

/-- the row that is sent -/
inductive OutR (lo : Nat) (H : Hp) : AV → List Int → Prop
  | nil : OutR lo H nilS []
  | row {b : Nat} {v : List Int} (hne : v ≠ []) (hlo : lo ≤ b) (hb : H[b]? = some (.cells (ints v) 2)) : OutR lo H (.msl b 0 v.length) v
theorem OutR.own {lo : Nat} {H : Hp} {a : AV} {v : List Int} (h : OutR lo H a v) : Own lo 2 H a (ints v) := by
  cases h with
  | nil => exact .nil
  | row hne hlo hb =>
    have := Own.row (lo := lo) (t := 2) (H := H) (es := ints v) (by intro e; exact hne (List.eq_nil_of_length_eq_zero (by rw [← ints_len v, e]; rfl))) hlo hb
    rw [ints_len] at this
    exact this
theorem OutR.low {lo : Nat} {H : Hp} {a : AV} {v : List Int} (h : OutR lo H a v) {s : Nat} (hs : s < lo) (c : AObj) : OutR lo (H.set s c) a v := by
  cases h with
  | nil => exact .nil
  | row hne hlo hb => exact .row hne hlo (by rw [List.getElem?_set_ne (by omega)]; exact hb)
theorem OutR.less {lo lo' : Nat} {H : Hp} {a : AV} {v : List Int} (h : OutR lo H a v) (hl : lo' ≤ lo) : OutR lo' H a v := by
  cases h with
  | nil => exact .nil
  | row hne hlo hb => exact .row hne (by omega) hb

/-- between the rounds of a burst -/
structure BI (A K : Hp) (q : Nat) (room : Int) (out : List Int) : Prop where
  len : A.length < K.length
  old : ∀ i, i < A.length → i ≠ q → i ≠ q + 1 → K[i]? = A[i]?
  rm : K[q]? = some (.cells [[iv room]] 2)
  ot : ∃ a, K[q + 1]? = some (.cells [[a]] 46) ∧ OutR (A.length + 1) K a out
theorem BI.hi {A K : Hp} {q : Nat} {room : Int} {out : List Int} (h : BI A K q room out) (hq : q + 1 < A.length) (c : AObj) : BI A (K.set A.length c) q room out := by
  obtain ⟨a, h1, h2⟩ := h.ot
  refine ⟨by rw [List.length_set]; exact h.len, fun i hi a b => ?_, ?_, a, ?_, h2.low (by omega) c⟩
  · rw [List.getElem?_set_ne (by omega)]; exact h.old i hi a b
  · rw [List.getElem?_set_ne (by omega)]; exact h.rm
  · rw [List.getElem?_set_ne (by omega)]; exact h1
theorem BI.get {A K : Hp} {q : Nat} {room : Int} {out : List Int} (h : BI A K q room out) {i : Nat} {ob : AObj} (hi : A[i]? = some ob) (a : i ≠ q) (b : i ≠ q + 1) : K[i]? = some ob := by
  rw [h.old i (List.getElem?_eq_some_iff.1 hi).1 a b]; exact hi

theorem BI.next {A K : Hp} {q : Nat} {room : Int} {out : List Int} (h : BI A K q room out) (hq : q + 1 < A.length) {a : AV} (hO : OutR (A.length + 1) K a out) (x rm : Int) {n m : Nat} (hn : n = K.length) (hm : m = out.length + 1) :
    BI A ((ownK (K.set q (.cells [[iv rm]] 2)) a ++ [AObj.cells (ints out ++ [[iv x]]) 2]).set (q + 1) (.cells [[.msl n 0 m]] 46)) q rm (out ++ [x]) ∧
      ∀ ob, K[A.length]? = some ob → ((ownK (K.set q (.cells [[iv rm]] 2)) a ++ [AObj.cells (ints out ++ [[iv x]]) 2]).set (q + 1) (.cells [[.msl n 0 m]] 46))[A.length]? = some ob := by
  subst hn hm
  have hl := h.len
  have hO2 := (hO.low (show q < A.length + 1 by omega) (.cells [[iv rm]] 2)).own
  have key : ∀ i, i < A.length + 1 → i ≠ q + 1 → ((ownK (K.set q (.cells [[iv rm]] 2)) a ++ [AObj.cells (ints out ++ [[iv x]]) 2]).set (q + 1) (.cells [[.msl K.length 0 (out.length + 1)]] 46))[i]? = (K.set q (.cells [[iv rm]] 2))[i]? := by
    intro i hi hne
    rw [List.getElem?_set_ne (by omega), List.getElem?_append_left (by rw [ownK_len, List.length_set]; omega), ownK_low hO2 hi]
  refine ⟨⟨?_, fun i hi a b => ?_, ?_, .msl K.length 0 (out.length + 1), ?_, ?_⟩, fun ob hb => ?_⟩
  · rw [List.length_set, List.length_append, ownK_len, List.length_set]; omega
  · rw [key i (by omega) b, List.getElem?_set_ne (by omega)]; exact h.old i hi a b
  · rw [key q (by omega) (by omega)]; exact List.getElem?_set_self (by omega)
  · exact List.getElem?_set_self (by rw [List.length_append, ownK_len, List.length_set]; omega)
  · have e := OutR.row (lo := A.length + 1) (b := K.length) (v := out ++ [x]) (H := (ownK (K.set q (.cells [[iv rm]] 2)) a ++ [AObj.cells (ints out ++ [[iv x]]) 2]).set (q + 1) (.cells [[.msl K.length 0 (out.length + 1)]] 46)) (by simp) (by omega) (by
      rw [List.getElem?_set_ne (by omega), ← ints_app]
      have := get_new (ownK (K.set q (.cells [[iv rm]] 2)) a) (.cells (ints out ++ [[iv x]]) 2)
      rw [ownK_len, List.length_set] at this
      exact this)
    rw [List.length_append] at e
    exact e
  · rw [key A.length (by omega) (by omega), List.getElem?_set_ne (by omega)]; exact hb

/-- for id := range b.due(t, wait) -/
theorem overDue {n : Nat} {T : Env} {Q : Exit → Env → Hp → Prop} {gop : Operand} {x : Nat} {assign body : Code} {A : Hp} {F : Ft} {w : Rw} {S : Bf} (t wt : Int) (ht : 0 ≤ t ∧ t ≤ 1073741824) (hwt : 0 ≤ wt ∧ wt ≤ 1073741824) (hg : Good S) (hmt : MapIs w.kt (stF S.L))
    (hT : evA T gop = .fn (.func 97) [.rptr [.mptr F.b 0 0] 0, .rptr [iv t] 0, .rptr [iv wt] 0]) (hx : x < n) (I : Nat → Hp → Prop)
    (hO : ∀ j H, I j H → H[F.b]? = some (.cells [w.cs F] 109) ∧ H[F.t]? = some (.amap (ents w.kt)) ∧ OrdAt H w.ord (idsL S.L))
    (h0 : ∀ ob, I 0 (A ++ [ob]))
    (hs : ∀ (j : Nat) (h : Hd) (H : Hp), S.L[j]? = some h → dueB t wt h = false → I j H → I (j + 1) H)
    (hb : ∀ (lp : LoopState → AObj) (j : Nat) (h : Hd) (H1 : Hp), S.L[j]? = some h → dueB t wt h = true → I j H1 → H1[A.length]? = some (lp .ready) →
      Awp Try.prog n (some A.length) assign (upd T x (iv h.r.id)) H1 (fun e T1 H1' => e = .normal ∧ H1' = H1 ∧ Awp Try.prog n (some A.length) body T1 (H1.set A.length (lp .busy)) (fun e T2 H2 => e = .normal ∧ H2[A.length]? = some (lp .busy) ∧ I (j + 1) (H2.set A.length (lp .ready)))))
    (hn : ∀ H1, I S.L.length H1 → A.length < H1.length → Q .normal T (H1.set A.length .dead)) :
    Awp Try.prog n none (.rangeFunc gop #[x] assign body) T A Q := by
  refine Awp.range (k := 97) (cap := [.rptr [.mptr F.b 0 0] 0, .rptr [iv t] 0, .rptr [iv wt] 0]) hT fun fid D => ?_
  refine ACalls.mono (dueLoop (F := F) (w := w) (S := S) A.length t wt ht hwt hg hmt (fun j K => I j K ∧ K[A.length]? = some (.loop .ready none fid T n #[x] assign body D)) (fun j K h => hO j K h.1) ?_ ?_ _ ⟨h0 _, get_new _ _⟩) fun v1 K hI => ?_
  · rintro j h K hh hd ⟨hI, hlp⟩
    refine AYield.mono (yieldOf hlp rfl (by simpa using hx) (fun K => I (j + 1) K) (fun _ => False) (Awp.mono (hb (fun st => .loop st none fid T n #[x] assign body D) j h K hh hd hI hlp) ?_)) ?_
    · rintro e T1 H1 ⟨h1, h2, h3⟩
      refine ⟨h1, h2, Awp.mono h3 ?_⟩
      rintro e T2 H2 ⟨rfl, h4, h5⟩
      exact ⟨h4, h5⟩
    · rintro v1 H2 (⟨h1, h2, h3⟩ | ⟨_, _, h⟩)
      · exact ⟨h1, h2, h3⟩
      · exact h.elim
  · rintro j h K hh hd ⟨hI, hlp⟩
    exact ⟨hs j h K hh hd hI, hlp⟩
  · exact ⟨.ready, none, fid, T, n, _, _, _, D, hI.2, by simp, hn K hI.1 (List.getElem?_eq_some_iff.1 hI.2).1⟩

set_option maxRecDepth 8000 in
set_option maxHeartbeats 4000000 in
theorem Burst_ok {H : Hp} {F : Ft} {w : Rw} {S : Bf} (hR : Rep H F w S) (hg : Good S) (room t wt : Int) (h1 : 0 ≤ room ∧ room ≤ 16777216) (h0 : 0 ≤ S.time) (h2 : S.time ≤ t ∧ t ≤ 1073741824) (h3 : 0 ≤ wt ∧ wt ≤ 1073741824) :
    ACalls Try.prog 29 [.mptr F.b 0 0, iv room, iv t, iv wt] H fun v1 H1 => ∃ a w', v1 = .tup [a, iv 0] ∧ OutR H.length H1 a (bst t wt S.L room).2 ∧ Rep H1 F w' (S.mark t (bst t wt S.L room).2) ∧ Fr F H H1 ∧ w'.ord = w.ord := by
  have htm := hR.time
  have hA := (Grow.refl H).app [.cells [[iv room]] 2]
  have hq0 := get_new H (.cells [[iv room]] 2)
  have hAl : (H ++ [AObj.cells [[iv room]] 2]).length = H.length + 1 := by simp
  have ho1 := fun H => outside_ok H room 0 16777216
  have ho2 := fun H => outside_ok H t w.time 1073741824
  have ho3 := fun H => outside_ok H wt 0 1073741824
  rw [decide_eq_false (by omega)] at ho1 ho2 ho3
  refine ACalls.of_body Try.func29 rfl (by kernel_rfl) (by rw [Try.ntmps29]; simp) ?_; rw [Try.ntmps29]
  repeat' ((fail_if_success (apply stopR (id := 1))); (fail_if_success (apply stopS (id := 1))); first | refine spD (fun _ => ?_) (fun _ => ?_) | refine spF (fun _ => ?_) (fun _ => ?_) | (apply gT; (exact rfl)) | (apply off; (exact rfl); (exact rfl)) | (apply condT; (exact rfl)) | (apply condF; (exact rfl)) | ((first | (apply stp0; (exact rfl); (exact rfl)) | (apply stpN0; (exact rfl)) | apply gT | apply condT | ((first | apply bodyQ_d0 | apply bodyQ_d1 | apply bodyQ_d2 | apply bodyQ_d3 | apply bodyQ_d4); (exact .inr rfl); (rw [Try.results29]))); (first | (focus (simp only [go_sem, ↓reduceIte, simprocAttr] <;> rfl)) | exact rfl); (first | (fail_if_success (show okD _ _ _ _ _ _ _ _ _)) | (first | exact okT | exact okN | exact okE rfl)); (first | (fail_if_success (show Bel _ _)) | (focus first | exact .val _ | (simp [oneOf, Bel_iff_tup, Bel_iff_agg, Bel_iff_rsl, Bel_iff_fn, Bel_iff_rptr, Bel_val]; done)))) | refine thenQ_n ?_ | refine thenQ_r ?_ | refine thenQ_e ?_ | refine blockQ_n ?_ | refine blockQ_r ?_ | refine blockQ_e ?_ | (apply blockQ_o; (exact rfl)) | refine Awp.seq ?_ | refine Awp.skip ?_ | refine Awp.block ?_ | refine reg (fun s => s == 5 || s == 10) ?_ | (apply drwE mixed (fun s => s == 5 || s == 10); (kernel_rfl)) | refine fin ?_ | refine Awp.ret ?_ | refine Awp.exit ?_ | ((first | (apply off; (exact rfl)) | apply condF); (first | (focus (simp only [go_sem, ↓reduceIte, simprocAttr] <;> rfl)) | exact rfl)))
  all_goals first | contradiction | (exfalso; omega) | skip
  refine Awp.withT (fun T' => T' 2 = iv t ∧ T' 3 = iv wt ∧ T' 4 = .rptr [.mptr F.b 0 0] 0 ∧ T' 5 = .mptr H.length 0 0) ⟨?_, ?_, ?_, ?_⟩ ?_
  · (first | (focus (simp only [go_sem, ↓reduceIte, simprocAttr]; first | done | rfl)) | rfl)
  · (first | (focus (simp only [go_sem, ↓reduceIte, simprocAttr]; first | done | rfl)) | rfl)
  · (first | (focus (simp only [go_sem, ↓reduceIte, simprocAttr]; first | done | rfl)) | rfl)
  · (first | (focus (simp only [go_sem, ↓reduceIte, simprocAttr]; first | done | rfl)) | rfl)
  rintro T ⟨t2, t3, t4, t5⟩
  obtain ⟨q, hq⟩ : ∃ q, q = H.length := ⟨_, rfl⟩
  generalize H ++ [AObj.cells [[iv room]] 2] = A at *
  rw [← hq] at hq0 hAl t5
  have hRA := hR.grow hA
  obtain ⟨R1, F1⟩ := hRA.raw.setB w.used t w.ord
  have hbA := hRA.raw.hb
  simp only [Rw.cs] at hbA
  have hv := valid_ok hRA.raw
  have hbl := hR.raw.lt
  have hq1 := (heldO (show F.b ≠ q by omega) hq0).1 (.cells [[iv w.cap, iv w.used, iv t, w.ord, .mp F.r, .mp F.s, .mp F.t]] 109)
  have hA1 : (A.set F.b (.cells [[iv w.cap, iv w.used, iv t, w.ord, .mp F.r, .mp F.s, .mp F.t]] 109)).length = q + 1 := by rw [List.length_set]; exact hAl
  have hO1 : OrdAt (A.set F.b (.cells [[iv w.cap, iv w.used, iv t, w.ord, .mp F.r, .mp F.s, .mp F.t]] 109)) w.ord (idsL S.L) := hRA.ord.set hRA.raw.hb (fun v => b109_ne v) _
  repeat' ((fail_if_success (apply stopR (id := 7))); (fail_if_success (apply stopS (id := 7))); first | refine spD (fun _ => ?_) (fun _ => ?_) | refine spF (fun _ => ?_) (fun _ => ?_) | (apply gT; (exact rfl)) | (apply off; (exact rfl); (exact rfl)) | (apply condT; (exact rfl)) | (apply condF; (exact rfl)) | ((first | (apply stp0; (exact rfl); (exact rfl)) | (apply stpN0; (exact rfl)) | apply gT | apply condT | ((first | apply bodyQ_d0 | apply bodyQ_d1 | apply bodyQ_d2 | apply bodyQ_d3 | apply bodyQ_d4); (exact .inr rfl); (rw [Try.results29]))); (first | (focus (simp only [go_sem, ↓reduceIte, simprocAttr, t2, t3, t4, t5, hbA, hq0] <;> rfl)) | exact rfl); (first | (fail_if_success (show okD _ _ _ _ _ _ _ _ _)) | (first | exact okT | exact okN | exact okE rfl)); (first | (fail_if_success (show Bel _ _)) | (focus first | exact .val _ | (simp [oneOf, Bel_iff_tup, Bel_iff_agg, Bel_iff_rsl, Bel_iff_fn, Bel_iff_rptr, Bel_val]; done)))) | (apply calTo0; (exact rfl); (iterate 2 (simp only [go_sem, ↓reduceIte, simprocAttr, t2, t3, t4, t5, hbA, hq0]; rfl)); (first | exact hv | exact ho1 _ | exact ho2 _ | exact ho3 _); (first | exact okT | exact okN | exact okE rfl)) | refine thenQ_n ?_ | refine thenQ_r ?_ | refine thenQ_e ?_ | refine blockQ_n ?_ | refine blockQ_r ?_ | refine blockQ_e ?_ | (apply blockQ_o; (exact rfl)) | refine Awp.seq ?_ | refine Awp.skip ?_ | refine Awp.block ?_ | refine reg (fun s => s == 5 || s == 10) ?_ | (apply drwE mixed (fun s => s == 5 || s == 10); (kernel_rfl)) | refine fin ?_ | refine Awp.ret ?_ | refine Awp.exit ?_ | ((first | (apply off; (exact rfl)) | apply condF); (first | (focus (simp only [go_sem, ↓reduceIte, simprocAttr, t2, t3, t4, t5, hbA, hq0] <;> rfl)) | exact rfl)))
  all_goals first | contradiction | (exfalso; omega) | skip
  refine Awp.withT (fun T' => T' 2 = iv t ∧ T' 3 = iv wt ∧ T' 4 = .rptr [.mptr F.b 0 0] 0 ∧ T' 5 = .mptr q 0 0 ∧ T' 10 = .mptr (q + 1) 0 0) ⟨?_, ?_, ?_, ?_, ?_⟩ ?_
  · (first | (focus (simp only [go_sem, ↓reduceIte, simprocAttr, t2]; first | done | rfl)) | rfl)
  · (first | (focus (simp only [go_sem, ↓reduceIte, simprocAttr, t3]; first | done | rfl)) | rfl)
  · (first | (focus (simp only [go_sem, ↓reduceIte, simprocAttr, t4]; first | done | rfl)) | rfl)
  · (first | (focus (simp only [go_sem, ↓reduceIte, simprocAttr, t5]; first | done | rfl)) | rfl)
  · (first | (focus (simp only [go_sem, ↓reduceIte, simprocAttr, hA1]; first | done | rfl)) | rfl)
  clear t2 t3 t4 t5 T hv hbA
  rintro T ⟨t2, t3, t4, t5, t10⟩
  have hRB := R1.app [.cells [[nilS]] 46]
  have hqB := (held hq1).2.1 [.cells [[nilS]] 46]
  have h10B := get_new (A.set F.b (.cells [[iv w.cap, iv w.used, iv t, w.ord, .mp F.r, .mp F.s, .mp F.t]] 109)) (.cells [[nilS]] 46)
  rw [hA1] at h10B
  have hBl : (A.set F.b (.cells [[iv w.cap, iv w.used, iv t, w.ord, .mp F.r, .mp F.s, .mp F.t]] 109) ++ [AObj.cells [[nilS]] 46]).length = q + 2 := by rw [List.length_append, hA1]; rfl
  have hOB := hO1.grow ((Grow.refl _).app [.cells [[nilS]] 46])
  have hFB := ((hA.fr (F := F)).trans F1).app [.cells [[nilS]] 46]
  generalize A.set F.b (.cells [[iv w.cap, iv w.used, iv t, w.ord, .mp F.r, .mp F.s, .mp F.t]] 109) ++ [AObj.cells [[nilS]] 46] = B at *
  clear R1 F1 hRA hA hq0 hAl hq1 hA1 hO1
  have hbB := hRB.hb
  simp only [Rw.cs] at hbB
  have hdu := due_ok B F.b t wt
  repeat' (first | refine spD (fun _ => ?_) (fun _ => ?_) | refine spF (fun _ => ?_) (fun _ => ?_) | (apply gT; (exact rfl)) | (apply off; (exact rfl); (exact rfl)) | (apply condT; (exact rfl)) | (apply condF; (exact rfl)) | ((first | (apply stp0; (exact rfl); (exact rfl)) | (apply stpN0; (exact rfl)) | apply gT | apply condT | ((first | apply bodyQ_d0 | apply bodyQ_d1 | apply bodyQ_d2 | apply bodyQ_d3 | apply bodyQ_d4); (exact .inr rfl); (rw [Try.results29]))); (first | (focus (simp only [go_sem, ↓reduceIte, simprocAttr, t2, t3, t4, t5, t10, hbB] <;> rfl)) | exact rfl); (first | (fail_if_success (show okD _ _ _ _ _ _ _ _ _)) | (first | exact okT | exact okN | exact okE rfl)); (first | (fail_if_success (show Bel _ _)) | (focus first | exact .val _ | (simp [oneOf, Bel_iff_tup, Bel_iff_agg, Bel_iff_rsl, Bel_iff_fn, Bel_iff_rptr, Bel_val]; done)))) | (apply calTo0; (exact rfl); (iterate 2 (simp only [go_sem, ↓reduceIte, simprocAttr, t2, t3, t4, t5, t10, hbB]; rfl)); (first | exact hdu); (first | exact okT | exact okN | exact okE rfl)) | refine thenQ_n ?_ | refine thenQ_r ?_ | refine thenQ_e ?_ | refine blockQ_n ?_ | refine blockQ_r ?_ | refine blockQ_e ?_ | (apply blockQ_o; (exact rfl)) | refine Awp.seq ?_ | refine Awp.skip ?_ | refine Awp.block ?_ | refine reg (fun s => s == 5 || s == 10) ?_ | (apply drwE mixed (fun s => s == 5 || s == 10); (kernel_rfl)) | refine fin ?_ | refine Awp.ret ?_ | refine Awp.exit ?_ | ((first | (apply off; (exact rfl)) | apply condF); (first | (focus (simp only [go_sem, ↓reduceIte, simprocAttr, t2, t3, t4, t5, t10, hbB] <;> rfl)) | exact rfl)))
  all_goals first | contradiction | (exfalso; omega) | skip
  have hil : (idsL S.L).length = S.L.length := by simp [idsL]
  refine Awp.withT (fun T' => T' 2 = iv t ∧ T' 4 = .rptr [.mptr F.b 0 0] 0 ∧ T' 5 = .mptr q 0 0 ∧ T' 10 = .mptr (q + 1) 0 0 ∧ T' 39 = .fn (.func 97) [.rptr [.mptr F.b 0 0] 0, .rptr [iv t] 0, .rptr [iv wt] 0]) ⟨?_, ?_, ?_, ?_, ?_⟩ ?_
  · (first | (focus (simp only [go_sem, ↓reduceIte, simprocAttr, t2]; first | done | rfl)) | rfl)
  · (first | (focus (simp only [go_sem, ↓reduceIte, simprocAttr, t4]; first | done | rfl)) | rfl)
  · (first | (focus (simp only [go_sem, ↓reduceIte, simprocAttr, t5]; first | done | rfl)) | rfl)
  · (first | (focus (simp only [go_sem, ↓reduceIte, simprocAttr, t10]; first | done | rfl)) | rfl)
  · (first | (focus (simp only [go_sem, ↓reduceIte, simprocAttr]; first | done | rfl)) | rfl)
  clear t2 t3 t4 t5 t10 T hdu
  rintro T ⟨t2, t4, t5, t10, t39⟩
  refine overDue (F := F) (w := { w with used := w.used, time := t, ord := w.ord }) (S := S) t wt (by omega) h3 hg hR.mt t39 (by decide) (fun j K => BI B K q (bst t wt (S.L.take j) room).1 (bst t wt (S.L.take j) room).2) ?_ ?_ ?_ ?_ ?_
  · rintro j K hI
    refine ⟨hI.get hRB.hb (by omega) (by omega), hI.get hRB.ht (by omega) (by omega), ?_⟩
    refine hOB.get fun o n v e hb => ?_
    obtain ⟨v0, h0v, _⟩ := hR.ord.blk e
    have := (List.getElem?_eq_some_iff.1 h0v).1
    exact hI.get hb (by omega) (by omega)
  · intro ob
    exact ⟨by simp, fun i hi _ _ => List.getElem?_append_left hi, (held hqB).2.1 _, nilS, (held h10B).2.1 _, .nil⟩
  · rintro j h K hh hd hI
    rw [bst_succ hh]
    unfold bstep
    rw [if_neg (by rw [hd]; simp)]
    exact hI
  · rintro lp j h K hh hd hI hlp
    repeat' (first | refine spD (fun _ => ?_) (fun _ => ?_) | refine spF (fun _ => ?_) (fun _ => ?_) | (apply gT; (exact rfl)) | (apply off; (exact rfl); (exact rfl)) | (apply condT; (exact rfl)) | (apply condF; (exact rfl)) | ((first | (apply stp0; (exact rfl); (exact rfl)) | (apply stpN0; (exact rfl)) | apply gT | apply condT | ((first | apply bodyQ_d0 | apply bodyQ_d1 | apply bodyQ_d2 | apply bodyQ_d3 | apply bodyQ_d4); (exact .inr rfl); (rw [Try.results29]))); (first | (focus (simp only [go_sem, ↓reduceIte, simprocAttr, t2, t4, t5, t10] <;> rfl)) | exact rfl); (first | (fail_if_success (show okD _ _ _ _ _ _ _ _ _)) | (first | exact okT | exact okN | exact okE rfl)); (first | (fail_if_success (show Bel _ _)) | (focus first | exact .val _ | (simp [oneOf, Bel_iff_tup, Bel_iff_agg, Bel_iff_rsl, Bel_iff_fn, Bel_iff_rptr, Bel_val]; done)))) | refine thenQ_n ?_ | refine thenQ_r ?_ | refine thenQ_e ?_ | refine blockQ_n ?_ | refine blockQ_r ?_ | refine blockQ_e ?_ | (apply blockQ_o; (exact rfl)) | refine Awp.seq ?_ | refine Awp.skip ?_ | refine Awp.block ?_ | refine reg (fun s => s == 5 || s == 10) ?_ | (apply drwE mixed (fun s => s == 5 || s == 10); (kernel_rfl)) | refine fin ?_ | refine Awp.ret ?_ | refine Awp.exit ?_ | ((first | (apply off; (exact rfl)) | apply condF); (first | (focus (simp only [go_sem, ↓reduceIte, simprocAttr, t2, t4, t5, t10] <;> rfl)) | exact rfl)))
    refine ⟨rfl, rfl, ?_⟩
    have hKl := (List.getElem?_eq_some_iff.1 hlp).1
    have hlb : (K.set B.length (lp .busy))[B.length]? = some (lp .busy) := List.getElem?_set_self hKl
    have hI := hI.hi (by omega) (lp .busy)
    generalize K.set B.length (lp .busy) = K1 at *
    have hRK : RepW K1 F { w with used := w.used, time := t, ord := w.ord } := ⟨hI.get hRB.hb (by omega) (by omega), hI.get hRB.hr (by omega) (by omega), hI.get hRB.hs (by omega) (by omega), hI.get hRB.ht (by omega) (by omega), hRB.rs, hRB.rt, hRB.st⟩
    have hbK := hRK.hb
    simp only [Rw.cs] at hbK
    have hfh := findH_at hg.nd hh
    have hrec : (getM w.kr h.r.id).getD recZ = .agg h.r.cs := by rw [hR.mr.get]; unfold recF; rw [hfh]; rfl
    have hsm : (getM w.ks h.r.id).getD (iv 0) = iv (if h.sm then 1 else 0) := by rw [hR.ms.get]; unfold smF; rw [hfh]; cases e : h.sm <;> simp [e]
    have hby := bytes_ok hRK h.r.id h.r _ hrec hsm
    have hbe : (if (if h.sm then (1 : Int) else 0) > 0 then h.r.pk else h.r.size) = h.bytes := by unfold Hd.bytes; cases h.sm <;> simp
    rw [hbe] at hby
    clear hbe hrec hsm hfh
    have hsc := bst_succ (t := t) (wt := wt) (room := room) hh
    have hrm : 0 ≤ (bst t wt (S.L.take j) room).1 ∧ (bst t wt (S.L.take j) room).1 ≤ room := bst_room (S.L.take j) (room, []) (fun x hx => hg.ok x (List.mem_of_mem_take hx)) h1.1
    have hol : (bst t wt (S.L.take j) room).2.length ≤ 0 + (S.L.take j).length := bst_len (S.L.take j) (room, [])
    obtain ⟨st, hst⟩ : ∃ st, st = bst t wt (S.L.take j) room := ⟨_, rfl⟩
    rw [← hst] at hsc hrm hol hI
    obtain ⟨rm, out⟩ := st
    simp only at hrm hol hI
    obtain ⟨a, ha, hOt⟩ := hI.ot
    have hbp : 1 ≤ h.bytes := by
      have h2 := hg.ok h (List.mem_of_getElem? hh)
      simp only [Item.ok] at h2
      unfold Hd.bytes; split <;> omega
    have hsl := hg.len
    rw [List.length_take] at hol
    by_cases hc : h.bytes ≤ rm
    · rw [show bstep t wt (rm, out) h = (rm - h.bytes, out ++ [h.r.id]) by unfold bstep; rw [if_pos ⟨hd, hc⟩]] at hsc
      have ww : IntKind.i64.wrap (rm - h.bytes) = rm - h.bytes := w64 (by omega) (by omega)
      have hqr := hI.rm
      have haq := (heldO (show q ≠ q + 1 by omega) ha).1 (.cells [[iv (rm - h.bytes)]] 2)
      have hKl1 := hI.len
      have haO : ∀ X, (ownK (K1.set q (.cells [[iv (rm - h.bytes)]] 2)) a ++ X)[q + 1]? = some (.cells [[a]] 46) := fun X => by
        rw [List.getElem?_append_left (by rw [ownK_len, List.length_set]; omega), ownK_low (hOt.low (by omega) (.cells [[iv (rm - h.bytes)]] 2)).own (by omega)]
        exact haq
      have hOR : OwnR (B.length + 1) 2 1 8 (K1.set q (.cells [[iv (rm - h.bytes)]] 2)) a (ints out) := ⟨(hOt.low (by omega) _).own, ints_one _, by rw [ints_len]; omega⟩
      repeat' (first | refine spD (fun _ => ?_) (fun _ => ?_) | refine spF (fun _ => ?_) (fun _ => ?_) | (apply gT; (exact rfl)) | (apply off; (exact rfl); (exact rfl)) | (apply condT; (exact rfl)) | (apply condF; (exact rfl)) | ((first | (apply stp0; (exact rfl); (exact rfl)) | (apply stpN0; (exact rfl)) | apply gT | apply condT | ((first | apply bodyQ_d0 | apply bodyQ_d1 | apply bodyQ_d2 | apply bodyQ_d3 | apply bodyQ_d4); (exact .inr rfl); (rw [Try.results29]))); (first | (focus (simp only [go_sem, ↓reduceIte, simprocAttr, t2, t4, t5, t10, hbK, hc, ww, hqr, ha, haq, haO] <;> rfl)) | exact rfl); (first | (fail_if_success (show okD _ _ _ _ _ _ _ _ _)) | (first | exact okT | exact okN | exact okE rfl)); (first | (fail_if_success (show Bel _ _)) | (focus first | exact .val _ | (simp [oneOf, Bel_iff_tup, Bel_iff_agg, Bel_iff_rsl, Bel_iff_fn, Bel_iff_rptr, Bel_val]; done)))) | (apply stpApp; (exact rfl); (first | exact hOR); (iterate 2 (first | (focus (simp only [go_sem, ↓reduceIte, simprocAttr, t2, t4, t5, t10, hbK, hc, ww, hqr, ha, haq, haO] <;> rfl)) | rfl)); (first | rfl | (simp [AV.isCell]; done)); (first | rfl | (simp; done)); (first | exact ap39 | exact ap44 | exact ap46 | exact ap61 | exact ap63 | exact ap75 | exact ap86 | exact ap101 | exact ap102); (first | exact okT | exact okN | exact okE rfl)) | (apply calTo0; (exact rfl); (iterate 2 (simp only [go_sem, ↓reduceIte, simprocAttr, t2, t4, t5, t10, hbK, hc, ww, hqr, ha, haq, haO]; rfl)); (first | exact hby); (first | exact okT | exact okN | exact okE rfl)) | refine thenQ_n ?_ | refine thenQ_r ?_ | refine thenQ_e ?_ | refine blockQ_n ?_ | refine blockQ_r ?_ | refine blockQ_e ?_ | (apply blockQ_o; (exact rfl)) | refine Awp.seq ?_ | refine Awp.skip ?_ | refine Awp.block ?_ | refine reg (fun s => s == 5 || s == 10) ?_ | (apply drwE mixed (fun s => s == 5 || s == 10); (kernel_rfl)) | refine fin ?_ | refine Awp.ret ?_ | refine Awp.exit ?_ | ((first | (apply off; (exact rfl)) | apply condF); (first | (focus (simp only [go_sem, ↓reduceIte, simprocAttr, t2, t4, t5, t10, hbK, hc, ww, hqr, ha, haq, haO] <;> rfl)) | exact rfl)))
      all_goals first | contradiction | (exfalso; omega) | skip
      obtain ⟨n1, n2⟩ := hI.next (by omega) hOt h.r.id (rm - h.bytes) (n := (K1.set q (.cells [[iv (rm - h.bytes)]] 2)).length) (m := (ints out).length + 1) (List.length_set ..) (by rw [ints_len])
      refine ⟨rfl, n2 _ hlb, ?_⟩
      show BI B _ q (bst t wt (S.L.take (j + 1)) room).1 (bst t wt (S.L.take (j + 1)) room).2
      rw [hsc]
      exact n1.hi (by omega) _
    · rw [show bstep t wt (rm, out) h = (rm, out) by unfold bstep; rw [if_neg (fun k => hc k.2)]] at hsc
      have hqr := hI.rm
      repeat' (first | refine spD (fun _ => ?_) (fun _ => ?_) | refine spF (fun _ => ?_) (fun _ => ?_) | (apply gT; (exact rfl)) | (apply off; (exact rfl); (exact rfl)) | (apply condT; (exact rfl)) | (apply condF; (exact rfl)) | ((first | (apply stp0; (exact rfl); (exact rfl)) | (apply stpN0; (exact rfl)) | apply gT | apply condT | ((first | apply bodyQ_d0 | apply bodyQ_d1 | apply bodyQ_d2 | apply bodyQ_d3 | apply bodyQ_d4); (exact .inr rfl); (rw [Try.results29]))); (first | (focus (simp only [go_sem, ↓reduceIte, simprocAttr, t2, t4, t5, t10, hbK, hc, hqr] <;> rfl)) | exact rfl); (first | (fail_if_success (show okD _ _ _ _ _ _ _ _ _)) | (first | exact okT | exact okN | exact okE rfl)); (first | (fail_if_success (show Bel _ _)) | (focus first | exact .val _ | (simp [oneOf, Bel_iff_tup, Bel_iff_agg, Bel_iff_rsl, Bel_iff_fn, Bel_iff_rptr, Bel_val]; done)))) | (apply calTo0; (exact rfl); (iterate 2 (simp only [go_sem, ↓reduceIte, simprocAttr, t2, t4, t5, t10, hbK, hc, hqr]; rfl)); (first | exact hby); (first | exact okT | exact okN | exact okE rfl)) | refine thenQ_n ?_ | refine thenQ_r ?_ | refine thenQ_e ?_ | refine blockQ_n ?_ | refine blockQ_r ?_ | refine blockQ_e ?_ | (apply blockQ_o; (exact rfl)) | refine Awp.seq ?_ | refine Awp.skip ?_ | refine Awp.block ?_ | refine reg (fun s => s == 5 || s == 10) ?_ | (apply drwE mixed (fun s => s == 5 || s == 10); (kernel_rfl)) | refine fin ?_ | refine Awp.ret ?_ | refine Awp.exit ?_ | ((first | (apply off; (exact rfl)) | apply condF); (first | (focus (simp only [go_sem, ↓reduceIte, simprocAttr, t2, t4, t5, t10, hbK, hc, hqr] <;> rfl)) | exact rfl)))
      all_goals first | contradiction | (exfalso; omega) | skip
      refine ⟨rfl, hlb, ?_⟩
      show BI B _ q (bst t wt (S.L.take (j + 1)) room).1 (bst t wt (S.L.take (j + 1)) room).2
      rw [hsc]
      exact hI.hi (by omega) _
  · rintro K hI hlt
    rw [List.take_length] at hI
    have hI := hI.hi (by omega) .dead
    generalize K.set B.length .dead = K1 at *
    have hRK : RepW K1 F { w with used := w.used, time := t, ord := w.ord } := ⟨hI.get hRB.hb (by omega) (by omega), hI.get hRB.hr (by omega) (by omega), hI.get hRB.hs (by omega) (by omega), hI.get hRB.ht (by omega) (by omega), hRB.rs, hRB.rt, hRB.st⟩
    have hOK : OrdAt K1 w.ord (idsL S.L) := by
      refine hOB.get fun o n v e hb => ?_
      obtain ⟨v0, h0v, _⟩ := hR.ord.blk e
      have := (List.getElem?_eq_some_iff.1 h0v).1
      exact hI.get hb (by omega) (by omega)
    have hFK : Fr F H K1 := ⟨by have := hFB.len; have := hI.len; omega, fun i hi a b c d => by rw [hI.old i (by omega) (by omega) (by omega)]; exact hFB.old i hi a b c d⟩
    have hsub : ∀ x ∈ (bst t wt S.L room).2, x ∈ idsL S.L := fun x hx => (bst_mem S.L (room, []) x hx).resolve_left (by simp)
    have hol : (bst t wt S.L room).2.length ≤ 0 + S.L.length := bst_len S.L (room, [])
    have hsl := hg.len
    obtain ⟨a, ha, hOt⟩ := hI.ot
    generalize (bst t wt S.L room).2 = out at *
    cases hOt with
    | nil =>
      repeat' (first | refine spD (fun _ => ?_) (fun _ => ?_) | refine spF (fun _ => ?_) (fun _ => ?_) | (apply gT; (exact rfl)) | (apply off; (exact rfl); (exact rfl)) | (apply condT; (exact rfl)) | (apply condF; (exact rfl)) | ((first | (apply stp0; (exact rfl); (exact rfl)) | (apply stpN0; (exact rfl)) | apply gT | apply condT | ((first | apply bodyQ_d0 | apply bodyQ_d1 | apply bodyQ_d2 | apply bodyQ_d3 | apply bodyQ_d4); (exact .inr rfl); (rw [Try.results29]))); (first | (focus (simp only [go_sem, ↓reduceIte, simprocAttr, t2, t4, t5, t10, ha] <;> rfl)) | exact rfl); (first | (fail_if_success (show okD _ _ _ _ _ _ _ _ _)) | (first | exact okT | exact okN | exact okE rfl)); (first | (fail_if_success (show Bel _ _)) | (focus first | exact .val _ | (simp [oneOf, Bel_iff_tup, Bel_iff_agg, Bel_iff_rsl, Bel_iff_fn, Bel_iff_rptr, Bel_val]; done)))) | refine thenQ_n ?_ | refine thenQ_r ?_ | refine thenQ_e ?_ | refine blockQ_n ?_ | refine blockQ_r ?_ | refine blockQ_e ?_ | (apply blockQ_o; (exact rfl)) | refine Awp.seq ?_ | refine Awp.skip ?_ | refine Awp.block ?_ | refine reg (fun s => s == 5 || s == 10) ?_ | (apply drwE mixed (fun s => s == 5 || s == 10); (kernel_rfl)) | refine fin ?_ | refine Awp.ret ?_ | refine Awp.exit ?_ | ((first | (apply off; (exact rfl)) | apply condF); (first | (focus (simp only [go_sem, ↓reduceIte, simprocAttr, t2, t4, t5, t10, ha] <;> rfl)) | exact rfl)))
      all_goals first | contradiction | (exfalso; omega) | skip
      refine Awp.loop (ι := Nat) (fun _ T' K => T' 55 = iv 0 ∧ T' 56 = iv 0 ∧ T' 10 = .mptr (q + 1) 0 0 ∧ K = K1) (fun m => m) 0 ?_ ?_
      · refine ⟨?_, ?_, ?_, rfl⟩
        · (first | (focus (simp only [go_sem, ↓reduceIte, simprocAttr]; first | done | rfl)) | rfl)
        · (first | (focus (simp only [go_sem, ↓reduceIte, simprocAttr]; first | done | rfl)) | rfl)
        · (first | (focus (simp only [go_sem, ↓reduceIte, simprocAttr, t10]; first | done | rfl)) | rfl)
      rintro m T K ⟨t55, t56, t10, hK⟩
      rw [hK]
      repeat' (first | refine spD (fun _ => ?_) (fun _ => ?_) | refine spF (fun _ => ?_) (fun _ => ?_) | (apply gT; (exact rfl)) | (apply off; (exact rfl); (exact rfl)) | (apply condT; (exact rfl)) | (apply condF; (exact rfl)) | ((first | (apply stp0; (exact rfl); (exact rfl)) | (apply stpN0; (exact rfl)) | apply gT | apply condT); (first | (focus (simp only [go_sem, ↓reduceIte, simprocAttr, t55, t56, t10, ha, Int.lt_irrefl] <;> rfl)) | exact rfl); (first | (fail_if_success (show okD _ _ _ _ _ _ _ _ _)) | (first | exact okT | exact okN | exact okE rfl))) | refine thenQ_n ?_ | refine thenQ_r ?_ | refine thenQ_e ?_ | refine blockQ_n ?_ | refine blockQ_r ?_ | refine blockQ_e ?_ | (apply blockQ_o; (exact rfl)) | refine Awp.seq ?_ | refine Awp.skip ?_ | refine Awp.block ?_ | refine reg (fun s => s == 5 || s == 10) ?_ | (apply drwE mixed (fun s => s == 5 || s == 10); (kernel_rfl)) | refine fin ?_ | refine Awp.ret ?_ | refine Awp.exit ?_ | ((first | (apply off; (exact rfl)) | apply condF); (first | (focus (simp only [go_sem, ↓reduceIte, simprocAttr, t55, t56, t10, ha, Int.lt_irrefl] <;> rfl)) | exact rfl)))
      all_goals first | contradiction | (exfalso; omega) | skip
      exact bodyQ_mk (vs := [nilS, iv 0]) (.inr rfl) (by rw [Try.results29]; simp only [go_sem, ↓reduceIte, simprocAttr]) (Vs.refl _ _ _) ⟨nilS, _, rfl, .nil, ⟨hRK, hR.cap, hR.used, rfl, (by show OrdAt K1 w.ord (idsL (S.L.map _)); rw [idsL_mk]; exact hOK), hR.mr.congr (recF_mk _ _ _), hR.ms.congr (smF_mk _ _ _), hR.mt.congr (stF_mk0 _ _)⟩, hFK, rfl⟩
    | row hne hlo hb =>
      rename_i b
      have hol2 : out.length ≤ maxLen := by simp only [maxLen]; omega
      have hvl := ints_len out
      have ht1 : t ≠ -1 := by omega
      repeat' (first | refine spD (fun _ => ?_) (fun _ => ?_) | refine spF (fun _ => ?_) (fun _ => ?_) | (apply gT; (exact rfl)) | (apply off; (exact rfl); (exact rfl)) | (apply condT; (exact rfl)) | (apply condF; (exact rfl)) | ((first | (apply stp0; (exact rfl); (exact rfl)) | (apply stpN0; (exact rfl)) | apply gT | apply condT | ((first | apply bodyQ_d0 | apply bodyQ_d1 | apply bodyQ_d2 | apply bodyQ_d3 | apply bodyQ_d4); (exact .inr rfl); (rw [Try.results29]))); (first | (focus (simp only [go_sem, ↓reduceIte, simprocAttr, t2, t4, t5, t10, ha] <;> rfl)) | exact rfl); (first | (fail_if_success (show okD _ _ _ _ _ _ _ _ _)) | (first | exact okT | exact okN | exact okE rfl)); (first | (fail_if_success (show Bel _ _)) | (focus first | exact .val _ | (simp [oneOf, Bel_iff_tup, Bel_iff_agg, Bel_iff_rsl, Bel_iff_fn, Bel_iff_rptr, Bel_val]; done)))) | refine thenQ_n ?_ | refine thenQ_r ?_ | refine thenQ_e ?_ | refine blockQ_n ?_ | refine blockQ_r ?_ | refine blockQ_e ?_ | (apply blockQ_o; (exact rfl)) | refine Awp.seq ?_ | refine Awp.skip ?_ | refine Awp.block ?_ | refine reg (fun s => s == 5 || s == 10) ?_ | (apply drwE mixed (fun s => s == 5 || s == 10); (kernel_rfl)) | refine fin ?_ | refine Awp.ret ?_ | refine Awp.exit ?_ | ((first | (apply off; (exact rfl)) | apply condF); (first | (focus (simp only [go_sem, ↓reduceIte, simprocAttr, t2, t4, t5, t10, ha] <;> rfl)) | exact rfl)))
      all_goals first | contradiction | (exfalso; omega) | skip
      refine Awp.loop (ι := Nat) (fun i T' K => i ≤ out.length ∧ (T' 2 = iv t ∧ T' 4 = .rptr [.mptr F.b 0 0] 0 ∧ T' 10 = .mptr (q + 1) 0 0 ∧ T' 54 = .msl b 0 out.length ∧ T' 55 = iv out.length ∧ T' 56 = iv i) ∧ ∃ kt, RepW K F { w with used := w.used, time := t, ord := w.ord, kt := kt } ∧ MapIs kt (stF (S.L.map (mkS t (out.take i)))) ∧ K.length = K1.length ∧ ∀ j, j ≠ F.t → K[j]? = K1[j]?) (fun i => out.length - i) 0 ?_ ?_
      · refine ⟨Nat.zero_le _, ⟨?_, ?_, ?_, ?_, ?_, ?_⟩, w.kt, hRK, hR.mt.congr (stF_mk0 _ _), rfl, fun _ _ => rfl⟩
        · (first | (focus (simp only [go_sem, ↓reduceIte, simprocAttr, t2]; first | done | rfl)) | rfl)
        · (first | (focus (simp only [go_sem, ↓reduceIte, simprocAttr, t4]; first | done | rfl)) | rfl)
        · (first | (focus (simp only [go_sem, ↓reduceIte, simprocAttr, t10]; first | done | rfl)) | rfl)
        · (first | (focus (simp only [go_sem, ↓reduceIte, simprocAttr]; first | done | rfl)) | rfl)
        · (first | (focus (simp only [go_sem, ↓reduceIte, simprocAttr]; first | done | rfl)) | rfl)
        · (first | (focus (simp only [go_sem, ↓reduceIte, simprocAttr]; first | done | rfl)) | rfl)
      clear t2 t4 t5 t10 t39 T
      rintro i T K ⟨hi, ⟨t2, t4, t10, t54, t55, t56⟩, kt, hRW, hm, hl, hold⟩
      by_cases hlt : i < out.length
      · obtain ⟨x, hx⟩ := nth hlt
        have hxs := hsub x (List.mem_of_getElem? hx)
        have hvi : (ints out)[i]? = some [iv x] := nthMap (fun x => [iv x]) hx
        have hbK : K[b]? = some (.cells (ints out) 2) := by rw [hold b (by omega)]; exact hb
        have hsu := wsucc hlt hol2
        have hbW := hRW.hb
        simp only [Rw.cs] at hbW
        have hu := mT107.upd hRW.ht x (iv t)
        repeat' (first | refine spD (fun _ => ?_) (fun _ => ?_) | refine spF (fun _ => ?_) (fun _ => ?_) | (apply gT; (exact rfl)) | (apply off; (exact rfl); (exact rfl)) | (apply condT; (exact rfl)) | (apply condF; (exact rfl)) | ((first | (apply stp0; (exact rfl); (exact rfl)) | (apply stpN0; (exact rfl)) | apply gT | apply condT | ((first | apply bodyQ_d0 | apply bodyQ_d1 | apply bodyQ_d2 | apply bodyQ_d3 | apply bodyQ_d4); (exact .inr rfl); (rw [Try.results29]))); (first | (focus (simp only [go_sem, ↓reduceIte, simprocAttr, Int.ofNat_lt.2 hlt, t2, t4, t10, t54, t55, t56, hvl, hvi, hlt, hbK, Nat.zero_add, hbW, hu, hsu] <;> rfl)) | exact rfl); (first | (fail_if_success (show okD _ _ _ _ _ _ _ _ _)) | (first | exact okT | exact okN | exact okE rfl)); (first | (fail_if_success (show Bel _ _)) | (focus first | exact .val _ | (simp [oneOf, Bel_iff_tup, Bel_iff_agg, Bel_iff_rsl, Bel_iff_fn, Bel_iff_rptr, Bel_val]; done)))) | refine thenQ_n ?_ | refine thenQ_r ?_ | refine thenQ_e ?_ | refine blockQ_n ?_ | refine blockQ_r ?_ | refine blockQ_e ?_ | (apply blockQ_o; (exact rfl)) | refine Awp.seq ?_ | refine Awp.skip ?_ | refine Awp.block ?_ | refine reg (fun s => s == 5 || s == 10) ?_ | (apply drwE mixed (fun s => s == 5 || s == 10); (kernel_rfl)) | refine fin ?_ | refine Awp.ret ?_ | refine Awp.exit ?_ | ((first | (apply off; (exact rfl)) | apply condF); (first | (focus (simp only [go_sem, ↓reduceIte, simprocAttr, Int.ofNat_lt.2 hlt, t2, t4, t10, t54, t55, t56, hvl, hvi, hlt, hbK, Nat.zero_add, hbW, hu, hsu] <;> rfl)) | exact rfl)))
        all_goals first | contradiction | (exfalso; omega) | skip
        refine ⟨i + 1, ⟨hlt, ⟨?_, ?_, ?_, ?_, ?_, ?_⟩, setM x (iv t) kt, (hRW.setT _).1, ?_, by rw [List.length_set]; exact hl, fun j hj => by rw [List.getElem?_set_ne (Ne.symm hj)]; exact hold j hj⟩, Nat.sub_lt_sub_left hlt (Nat.lt_succ_self i)⟩
        · (first | (focus (simp only [go_sem, ↓reduceIte, simprocAttr, t2]; first | done | rfl)) | rfl)
        · (first | (focus (simp only [go_sem, ↓reduceIte, simprocAttr, t4]; first | done | rfl)) | rfl)
        · (first | (focus (simp only [go_sem, ↓reduceIte, simprocAttr, t10]; first | done | rfl)) | rfl)
        · (first | (focus (simp only [go_sem, ↓reduceIte, simprocAttr, t54]; first | done | rfl)) | rfl)
        · (first | (focus (simp only [go_sem, ↓reduceIte, simprocAttr, t55]; first | done | rfl)) | rfl)
        · (first | (focus (simp only [go_sem, ↓reduceIte, simprocAttr, hsu]; first | done | rfl)) | rfl)
        · refine hm.set x (iv t) fun y => ?_
          rw [List.take_add_one, hx]
          exact stF_mk ht1 _ hxs y
      · have hie : i = out.length := Nat.le_antisymm hi (Nat.not_lt.1 hlt)
        subst hie
        rw [List.take_length] at hm
        have haK : K[q + 1]? = some (.cells [[.msl b 0 out.length]] 46) := by rw [hold _ (by omega)]; exact ha
        have hOK2 : OrdAt K w.ord (idsL S.L) := hOK.get fun o n v e hb => by
          rw [hold o (fun e => by rw [e, hRK.ht] at hb; simp at hb)]; exact hb
        have hFK2 : Fr F H K := ⟨by rw [hl]; exact hFK.len, fun j hj a b c d => by rw [hold j d]; exact hFK.old j hj a b c d⟩
        repeat' (first | refine spD (fun _ => ?_) (fun _ => ?_) | refine spF (fun _ => ?_) (fun _ => ?_) | (apply gT; (exact rfl)) | (apply off; (exact rfl); (exact rfl)) | (apply condT; (exact rfl)) | (apply condF; (exact rfl)) | ((first | (apply stp0; (exact rfl); (exact rfl)) | (apply stpN0; (exact rfl)) | apply gT | apply condT); (first | (focus (simp only [go_sem, ↓reduceIte, simprocAttr, t55, t56, t10, haK, Int.lt_irrefl] <;> rfl)) | exact rfl); (first | (fail_if_success (show okD _ _ _ _ _ _ _ _ _)) | (first | exact okT | exact okN | exact okE rfl))) | refine thenQ_n ?_ | refine thenQ_r ?_ | refine thenQ_e ?_ | refine blockQ_n ?_ | refine blockQ_r ?_ | refine blockQ_e ?_ | (apply blockQ_o; (exact rfl)) | refine Awp.seq ?_ | refine Awp.skip ?_ | refine Awp.block ?_ | refine reg (fun s => s == 5 || s == 10) ?_ | (apply drwE mixed (fun s => s == 5 || s == 10); (kernel_rfl)) | refine fin ?_ | refine Awp.ret ?_ | refine Awp.exit ?_ | ((first | (apply off; (exact rfl)) | apply condF); (first | (focus (simp only [go_sem, ↓reduceIte, simprocAttr, t55, t56, t10, haK, Int.lt_irrefl] <;> rfl)) | exact rfl)))
        all_goals first | contradiction | (exfalso; omega) | skip
        exact bodyQ_mk (vs := [.msl b 0 out.length, iv 0]) (.inr rfl) (by rw [Try.results29]; simp only [go_sem, ↓reduceIte, simprocAttr]) (Vs.refl _ _ _) ⟨_, _, rfl, .row hne (by have := hFB.len; omega) (by rw [hold b (by omega)]; exact hb), ⟨hRW, hR.cap, hR.used, rfl, (by show OrdAt K w.ord (idsL (S.L.map _)); rw [idsL_mk]; exact hOK2), hR.mr.congr (recF_mk _ _ _), hR.ms.congr (smF_mk _ _ _), hm⟩, hFK2, rfl⟩

end Go.Proofs.Ytlhchnnfgppneaa.Ab
namespace Go.Proofs.Ytlhchnnfgppneaa.Ab
open Go Go.RowKit Go.Proofs
set_option linter.unusedSimpArgs false
set_option linter.unusedVariables false
attribute [local irreducible] Awp wpO thenQ blockQ bodyQ ACalls stepA

def u16v (x : Int) : AV := .val (.int .u16 x)
theorem shr16 (x k : Int) (hk : 0 ≤ k ∧ k < 16) : ∃ z, intA Try.prog .shr 38 .u16 x .i64 k = some (.val (.int .u16 z)) ∧ (x = 0 → z = 0) := by
  refine ⟨x / 2 ^ k.toNat, ?_, fun e => by rw [e]; simp⟩
  unfold intA
  have e : binOp .shr 38 (.int .u16 x) (.int .i64 k) = pure (.int .u16 (x / 2 ^ k.toNat)) := shift_shr .u16 .i64 x k hk.1 (by simp only [IntKind.bits]; omega)
  simp only [e]
  rfl

/-- a round -/
structure Rd where
  B : Int
  L : Int
  D : Bool
  M : List Pc
  ex : Bool
def Rd.cs (p : Rd) : List AV := [u16v p.B, u16v p.L, bv p.D, .rsl (pcz p.M) p.ex]
def Rd.in_ (p : Rd) : Prop := (0 ≤ p.B ∧ p.B ≤ 65535) ∧ (0 ≤ p.L ∧ p.L ≤ 65535) ∧ (∀ q ∈ p.M, q.in8) ∧ p.M.length ≤ maxLen
def rds (l : List Rd) : List (List AV) := l.map Rd.cs
theorem rds_len (l : List Rd) : (rds l).length = l.length := by simp [rds]
theorem rds_at {l : List Rd} {k : Nat} {x : Rd} (h : l[k]? = some x) : (rds l)[k]? = some x.cs := nthMap Rd.cs h
def bls (g : List Bool) : List (List AV) := g.map fun b => [bv b]
theorem bls_at {g : List Bool} {k : Nat} {x : Bool} (h : g[k]? = some x) : (bls g)[k]? = some [bv x] := nthMap (fun b => [bv b]) h
theorem bls_set (g : List Bool) (k : Nat) (x : Bool) : (bls g).set k [bv x] = bls (g.set k x) := by simp [bls, List.map_set]
theorem bls_len (g : List Bool) : (bls g).length = g.length := by simp [bls]

/-- the slots of a round -/
structure E12 (rs : List Rd) (ex : Bool) (b m al gn : Nat) (n i : Int) (rb : Nat) (T : Env) : Prop where
  t1 : T 1 = .rsl (rds rs) ex
  t5 : T 5 = .mptr b 0 0
  t7 : T 7 = .rptr [.mp m] 0
  t8 : T 8 = .mp al
  t9 : T 9 = .msl gn 0 100
  t10 : T 10 = iv n
  t11 : T 11 = iv i
  t12 : T 12 = .mptr rb 0 0
def agF (G : Int → Option Item) : Int → Option AV := fun x => (G x).map fun r => .agg r.cs
/-- what memory holds in a round -/
structure Lk (K : Hp) (F : Ft) (w : Rw) (S : Bf) (m : Nat) (R : List Item) (al gn : Nat) (G : Int → Option Item) (g : List Bool) : Prop where
  rep : Rep K F w S
  ibx : Ibx K m R
  all : ∃ ka, K[al]? = some (.amap (ents ka)) ∧ MapIs ka (agF G)
  gon : K[gn]? = some (.cells (bls g) 4)
  n1 : m ≠ F.r ∧ m ≠ F.s ∧ m ≠ F.t
  n2 : al ≠ F.r ∧ al ≠ F.s ∧ al ≠ F.t
  n3 : m ≠ al
section
variable {K K' : Hp} {F : Ft} {w w' : Rw} {S S' : Bf} {m : Nat} {R R' : List Item} {al gn : Nat} {G : Int → Option Item} {g : List Bool}
theorem FrO.cells (hR : Rep K F w S) (hF : FrO F w K K') {j : Nat} {cs : List (List AV)} {t : TypeId} (hj : K[j]? = some (.cells cs t)) (h1 : t ≠ 109) (h2 : t ≠ 2) : K'[j]? = some (.cells cs t) := by
  refine hF.keeps hR hj ⟨fun e => ?_, fun e => ?_, fun e => ?_⟩ (fun c e => by cases e; exact h1 rfl) (fun c e => by cases e; exact h2 rfl)
  · rw [e, hR.raw.hr] at hj; cases hj
  · rw [e, hR.raw.hs] at hj; cases hj
  · rw [e, hR.raw.ht] at hj; cases hj
theorem Lk.grow (h : Lk K F w S m R al gn G g) (hG : Grow K K') : Lk K' F w S m R al gn G g := by
  obtain ⟨ka, h1, h2⟩ := h.all
  exact ⟨h.rep.grow hG, h.ibx.grow hG, ⟨ka, hG.get h1, h2⟩, hG.get h.gon, h.n1, h.n2, h.n3⟩
theorem Lk.prog (h : Lk K F w S m R al gn G g) (hR : Rep K' F w' S') (hF : FrO F w K K') : Lk K' F w' S' m R al gn G g := by
  obtain ⟨ka, h1, h2⟩ := h.all
  exact ⟨hR, h.ibx.prog h.rep hF h.n1, ⟨ka, hF.keeps h.rep h1 h.n2 (fun _ e => by cases e) (fun _ e => by cases e), h2⟩, hF.cells h.rep h.gon (by decide) (by decide), h.n1, h.n2, h.n3⟩
theorem Rep.setX {es : List (List AV)} {t : TypeId} (h : Rep K F w S) {j : Nat} {ob : AObj} (hj : K[j]? = some ob) (n : j ≠ F.r ∧ j ≠ F.s ∧ j ≠ F.t) (h1 : ∀ cs, ob ≠ .cells cs 109) (h3 : ∀ cs, ob ≠ .cells cs 2) (c : AObj) : Rep (K.set j c) F w S := by
  have nb : j ≠ F.b := fun e => by rw [e, h.raw.hb] at hj; cases hj; exact h1 _ rfl
  refine ⟨⟨(heldO nb h.raw.hb).1 _, (heldO n.1 h.raw.hr).1 _, (heldO n.2.1 h.raw.hs).1 _, (heldO n.2.2 h.raw.ht).1 _, h.raw.rs, h.raw.rt, h.raw.st⟩, h.cap, h.used, h.time, h.ord.get fun o n v e hb => ?_, h.mr, h.ms, h.mt⟩
  rw [List.getElem?_set_ne (fun e => by rw [← e, hj] at hb; cases hb; exact h3 _ rfl)]; exact hb
theorem Ibx.setX (h : Ibx K m R) {j : Nat} (n : j ≠ m) (c : AObj) : Ibx (K.set j c) m R := by
  obtain ⟨kr, h1, h2⟩ := h.at_
  exact ⟨h.srt, h.ok, kr, by rw [List.getElem?_set_ne n]; exact h1, h2⟩
/-- a record is noted as put -/
theorem Lk.put (h : Lk K F w S m R al gn G g) (n : Int) (y : Item) : ∃ ka, K[al]? = some (.amap (ents ka)) ∧ Lk (K.set al (.amap (ents (setM n (.agg y.cs) ka)))) F w S m R al gn (fun x => if x = n then some y else G x) g := by
  obtain ⟨ka, h1, h2⟩ := h.all
  refine ⟨ka, h1, h.rep.setX (es := []) (t := 0) h1 h.n2 (fun _ e => by cases e) (fun _ e => by cases e) _, h.ibx.setX (Ne.symm h.n3) _, ⟨_, (heldS h1).1 _, h2.set n _ fun x => ?_⟩, ?_, h.n1, h.n2, h.n3⟩
  · show Option.map _ (if x = n then some y else G x) = _
    by_cases e : x = n
    · rw [if_pos e, if_pos e]; rfl
    · rw [if_neg e, if_neg e]; rfl
  · rw [List.getElem?_set_ne (fun e => by have := h.gon; rw [← e, h1] at this; cases this)]; exact h.gon
/-- a record is noted as dropped -/
theorem Lk.note (h : Lk K F w S m R al gn G g) (d : Nat) : Lk (K.set gn (.cells (bls (g.set d true)) 4)) F w S m R al gn G (g.set d true) := by
  obtain ⟨ka, h1, h2⟩ := h.all
  obtain ⟨kr, h3, h4⟩ := h.ibx.at_
  have hg := h.gon
  refine ⟨h.rep.setX (es := []) (t := 0) hg ⟨fun e => ?_, fun e => ?_, fun e => ?_⟩ (fun _ e => by cases e) (fun _ e => by cases e) _, h.ibx.setX (fun e => ?_) _, ⟨ka, ?_, h2⟩, (heldS hg).1 _, h.n1, h.n2, h.n3⟩
  · rw [e, h.rep.raw.hr] at hg; cases hg
  · rw [e, h.rep.raw.hs] at hg; cases hg
  · rw [e, h.rep.raw.ht] at hg; cases hg
  · rw [e, h3] at hg; cases hg
  · rw [List.getElem?_set_ne (fun e => by rw [e, h1] at hg; cases hg)]; exact h1
/-- the inbox has turned -/
theorem Lk.take (h : Lk K F w S m R al gn G g) (hX : Ibx K' m R') (hF : FrM m K K') : Lk K' F w S m R' al gn G g := by
  obtain ⟨ka, h1, h2⟩ := h.all
  obtain ⟨kr, h3, h4⟩ := h.ibx.at_
  refine ⟨h.rep.take h.ibx hF h.n1, hX, ⟨ka, ?_, h2⟩, ?_, h.n1, h.n2, h.n3⟩
  · rw [hF.old _ (List.getElem?_eq_some_iff.1 h1).1 (Ne.symm h.n3)]; exact h1
  · have hg := h.gon
    rw [hF.old _ (List.getElem?_eq_some_iff.1 hg).1 (fun e => by rw [e, h3] at hg; cases hg)]; exact hg
theorem Lk.cellM (h : Lk K F w S m R al gn G g) (hF : FrM m K K') {j : Nat} {cs : List (List AV)} {t : TypeId} (hj : K[j]? = some (.cells cs t)) : K'[j]? = some (.cells cs t) := by
  obtain ⟨kr, h3, h4⟩ := h.ibx.at_
  rw [hF.old _ (List.getElem?_eq_some_iff.1 hj).1 (fun e => by rw [e, h3] at hj; cases hj)]; exact hj
end

end Go.Proofs.Ytlhchnnfgppneaa.Ab
namespace Go.Proofs.Ytlhchnnfgppneaa.Ab
open Go Go.RowKit Go.Proofs
set_option linter.unusedSimpArgs false
set_option linter.unusedVariables false
attribute [local irreducible] Awp wpO thenQ blockQ bodyQ ACalls stepA

/-- behind a piece of a round -/
def Q12 (rs : List Rd) (ex : Bool) (F : Ft) (m al gn : Nat) (i : Int) (rb : Nat) (p : Rd) (t : Int) (P : Nat → Bf → List Item → (Int → Option Item) → List Bool → Prop) (e : Exit) (T : Env) (K : Hp) : Prop :=
  e = .normal ∧ ∃ (n : Nat) (w : Rw) (S : Bf) (R : List Item) (G : Int → Option Item) (g : List Bool), E12 rs ex F.b m al gn n i rb T ∧ Lk K F w S m R al gn G g ∧ Inv G n g S R t ∧ K[rb]? = some (.cells [p.cs] 104) ∧ P n S R G g

theorem Pc.ok_id {p : Pc} (h : p.in8) {n : Int} (h0 : 0 ≤ n ∧ n ≤ 1000) : ({ p.item with id := n } : Item).ok := by
  have := Pc.item_ok h
  simp only [Item.ok] at this ⊢
  omega
theorem noted {ds : List Int} {g : List Bool} {k : Nat} {d : Int} (hd : ds[k]? = some d) (h0 : 0 ≤ d ∧ d < 100) (hg : g.length = 100) (h : ∀ x ∈ ds.take k, g[x.toNat]? = some true) : ∀ x ∈ ds.take (k + 1), (g.set d.toNat true)[x.toNat]? = some true := by
  intro x hx
  rw [List.take_add_one, hd] at hx
  by_cases e : d.toNat = x.toNat
  · rw [e, List.getElem?_set_self (by omega)]
  · rw [List.getElem?_set_ne e]
    rcases List.mem_append.1 hx with k | k
    · exact h x k
    · simp at k; rw [k] at e; exact absurd rfl e

set_option maxRecDepth 8000 in
set_option maxHeartbeats 8000000 in
theorem once1 {K : Hp} {rs : List Rd} {ex : Bool} {F : Ft} {w : Rw} {S : Bf} {m : Nat} {R : List Item} {al gn : Nat} {G : Int → Option Item} {g : List Bool} {n : Nat} {i t : Int} {rb : Nat} {p : Rd} {T : Env} (hT : E12 rs ex F.b m al gn n i rb T) (hK : Lk K F w S m R al gn G g) (hI : Inv G n g S R t)
    (hx : K[rb]? = some (.cells [p.cs] 104)) (hp : p.in_) (hn : n ≤ 78) : Awp Try.prog 313 none (hdC (tl (tl (inC (hdC (tl (inC (inC (tl (hdC (tl (tl (tl (tl (tl (tl (tl (tl (Try.f12.body.getD .skip))))))))))))))))))) T K (Q12 rs ex F m al gn i rb p t fun n' _ R' _ _ => n' ≤ n + 6 ∧ R' = R) := by
  obtain ⟨t1, t5, t7, t8, t9, t10, t11, t12⟩ := hT
  obtain ⟨_, _, hM, hMl⟩ := hp
  have hpl := pcz_len p.M
  unfold Try.f12
  simp only [tl, hdC, inC, Option.getD_some]
  repeat' (first | refine spD (fun _ => ?_) (fun _ => ?_) | refine spF (fun _ => ?_) (fun _ => ?_) | (apply gT; (exact rfl)) | (apply off; (exact rfl); (exact rfl)) | (apply condT; (exact rfl)) | (apply condF; (exact rfl)) | ((first | (apply stp0; (exact rfl); (exact rfl)) | (apply stpN0; (exact rfl)) | apply gT | apply condT | ((first | apply bodyQ_d0 | apply bodyQ_d1 | apply bodyQ_d2 | apply bodyQ_d3 | apply bodyQ_d4); (exact .inr rfl); (rw [Try.results12]))); (first | (focus (simp only [go_sem, ↓reduceIte, simprocAttr, t1, t5, t7, t8, t9, t10, t11, t12] <;> rfl)) | exact rfl); (first | (fail_if_success (show okD _ _ _ _ _ _ _ _ _)) | (first | exact okT | exact okN | exact okE rfl)); (first | (fail_if_success (show Bel _ _)) | (focus first | exact .val _ | (simp [oneOf, Bel_iff_tup, Bel_iff_agg, Bel_iff_rsl, Bel_iff_fn, Bel_iff_rptr, Bel_val]; done)))) | refine thenQ_n ?_ | refine thenQ_r ?_ | refine thenQ_e ?_ | refine blockQ_n ?_ | refine blockQ_r ?_ | refine blockQ_e ?_ | (apply blockQ_o; (exact rfl)) | refine Awp.seq ?_ | refine Awp.skip ?_ | refine Awp.block ?_ | refine reg (fun s => s == 12 || s == 14 || s == 22 || s == 31) ?_ | (apply drwE mixed (fun s => s == 12 || s == 14 || s == 22 || s == 31); (kernel_rfl)) | refine fin ?_ | refine Awp.ret ?_ | refine Awp.exit ?_ | ((first | (apply off; (exact rfl)) | apply condF); (first | (focus (simp only [go_sem, ↓reduceIte, simprocAttr, t1, t5, t7, t8, t9, t10, t11, t12] <;> rfl)) | exact rfl)))
  all_goals first | contradiction | skip
  refine Awp.loop (ι := Nat) (fun k T' K' => k ≤ p.M.length ∧ k ≤ 6 ∧ T' 13 = iv k ∧ ∃ (n' : Nat) (w : Rw) (S : Bf) (G : Int → Option Item) (g : List Bool), n' ≤ n + k ∧ E12 rs ex F.b m al gn n' i rb T' ∧ Lk K' F w S m R al gn G g ∧ Inv G n' g S R t ∧ K'[rb]? = some (.cells [p.cs] 104)) (fun k => 6 - k) 0 ?_ ?_
  · exact ⟨Nat.zero_le _, Nat.zero_le _, by (first | (focus (simp only [go_sem, ↓reduceIte, simprocAttr]; first | done | rfl)) | rfl), n, w, S, G, g, Nat.le_refl _, ⟨by (first | (focus (simp only [go_sem, ↓reduceIte, simprocAttr, t1]; first | done | rfl)) | rfl), by (first | (focus (simp only [go_sem, ↓reduceIte, simprocAttr, t5]; first | done | rfl)) | rfl), by (first | (focus (simp only [go_sem, ↓reduceIte, simprocAttr, t7]; first | done | rfl)) | rfl), by (first | (focus (simp only [go_sem, ↓reduceIte, simprocAttr, t8]; first | done | rfl)) | rfl), by (first | (focus (simp only [go_sem, ↓reduceIte, simprocAttr, t9]; first | done | rfl)) | rfl), by (first | (focus (simp only [go_sem, ↓reduceIte, simprocAttr, t10]; first | done | rfl)) | rfl), by (first | (focus (simp only [go_sem, ↓reduceIte, simprocAttr, t11]; first | done | rfl)) | rfl), by (first | (focus (simp only [go_sem, ↓reduceIte, simprocAttr, t12]; first | done | rfl)) | rfl)⟩, hK, hI, hx⟩
  clear t1 t5 t7 t8 t9 t10 t11 t12 T hK hI hx K w S G g
  rintro k T K ⟨hk1, hk2, t13, n', w, S, G, g, hn', ⟨t1, t5, t7, t8, t9, t10, t11, t12⟩, hK, hI, hx⟩
  simp only [Rd.cs, u16v] at hx
  by_cases hkl : k < p.M.length
  · by_cases hk6 : (k : Int) < 6
    · obtain ⟨q, hq⟩ := nth hkl
      have hqc : (pcz p.M)[k]? = some q.cs := nthMap Pc.cs hq
      have hq8 := hM q (List.mem_of_getElem? hq)
      have hrec := fun H => record_ok H q hq8
      have hok := Pc.ok_id hq8 (n := (n' : Int)) (by omega)
      have hid : ({ q.item with id := (n' : Int) } : Item).id = n' := rfl
      simp only [Pc.cs, u8v, Item.cs] at hqc hrec
      have hsu := wsucc hkl hMl
      have wn : IntKind.i64.wrap ((n' : Int) + 1) = (n' : Int) + 1 := w64 (by omega) (by omega)
      have hSl : S.L.length ≤ 255 := by have := hI.len; omega
      have hG1 := (Grow.refl K).app [.cells [[iv n', iv q.item.cls, iv q.item.made, iv q.item.size, iv q.item.pk]] 23]
      have hK1 := hK.grow hG1
      have hx1 := hG1.get hx
      have h14 := get_new K (.cells [[iv n', iv q.item.cls, iv q.item.made, iv q.item.size, iv q.item.pk]] 23)
      have hput := Put_ok hK1.rep hI.good (by omega) { q.item with id := (n' : Int) }
      simp only [Item.cs] at hput
      repeat' ((fail_if_success (apply stopR (id := 22))); (fail_if_success (apply stopS (id := 22))); first | refine spD (fun _ => ?_) (fun _ => ?_) | refine spF (fun _ => ?_) (fun _ => ?_) | (apply gT; (exact rfl)) | (apply off; (exact rfl); (exact rfl)) | (apply condT; (exact rfl)) | (apply condF; (exact rfl)) | ((first | (apply stp0; (exact rfl); (exact rfl)) | (apply stpN0; (exact rfl)) | apply gT | apply condT | ((first | apply bodyQ_d0 | apply bodyQ_d1 | apply bodyQ_d2 | apply bodyQ_d3 | apply bodyQ_d4); (exact .inr rfl); (rw [Try.results12]))); (first | (focus (simp only [go_sem, ↓reduceIte, simprocAttr, Int.ofNat_lt.2 hkl, hk6, t1, t5, t7, t8, t9, t10, t11, t12, t13, hpl, hqc, hx, wn] <;> rfl)) | exact rfl); (first | (fail_if_success (show okD _ _ _ _ _ _ _ _ _)) | (first | exact okT | exact okN | exact okE rfl)); (first | (fail_if_success (show Bel _ _)) | (focus first | exact .val _ | (simp [oneOf, Bel_iff_tup, Bel_iff_agg, Bel_iff_rsl, Bel_iff_fn, Bel_iff_rptr, Bel_val]; done)))) | (apply calTo0; (exact rfl); (iterate 2 (simp only [go_sem, ↓reduceIte, simprocAttr, Int.ofNat_lt.2 hkl, hk6, t1, t5, t7, t8, t9, t10, t11, t12, t13, hpl, hqc, hx, wn]; rfl)); (first | exact hrec _); (first | exact okT | exact okN | exact okE rfl)) | refine thenQ_n ?_ | refine thenQ_r ?_ | refine thenQ_e ?_ | refine blockQ_n ?_ | refine blockQ_r ?_ | refine blockQ_e ?_ | (apply blockQ_o; (exact rfl)) | refine Awp.seq ?_ | refine Awp.skip ?_ | refine Awp.block ?_ | refine reg (fun s => s == 12 || s == 14 || s == 22 || s == 31) ?_ | (apply drwE mixed (fun s => s == 12 || s == 14 || s == 22 || s == 31); (kernel_rfl)) | refine fin ?_ | refine Awp.ret ?_ | refine Awp.exit ?_ | ((first | (apply off; (exact rfl)) | apply condF); (first | (focus (simp only [go_sem, ↓reduceIte, simprocAttr, Int.ofNat_lt.2 hkl, hk6, t1, t5, t7, t8, t9, t10, t11, t12, t13, hpl, hqc, hx, wn] <;> rfl)) | exact rfl)))
      all_goals first | contradiction | skip
      refine Awp.withT (fun T' => E12 rs ex F.b m al gn ((n' : Int) + 1) i rb T' ∧ T' 13 = iv k ∧ T' 14 = .mptr K.length 0 0) ⟨⟨by (first | (focus (simp only [go_sem, ↓reduceIte, simprocAttr, t1]; first | done | rfl)) | rfl), by (first | (focus (simp only [go_sem, ↓reduceIte, simprocAttr, t5]; first | done | rfl)) | rfl), by (first | (focus (simp only [go_sem, ↓reduceIte, simprocAttr, t7]; first | done | rfl)) | rfl), by (first | (focus (simp only [go_sem, ↓reduceIte, simprocAttr, t8]; first | done | rfl)) | rfl), by (first | (focus (simp only [go_sem, ↓reduceIte, simprocAttr, t9]; first | done | rfl)) | rfl), by (first | (focus (simp only [go_sem, ↓reduceIte, simprocAttr]; first | done | rfl)) | rfl), by (first | (focus (simp only [go_sem, ↓reduceIte, simprocAttr, t11]; first | done | rfl)) | rfl), by (first | (focus (simp only [go_sem, ↓reduceIte, simprocAttr, t12]; first | done | rfl)) | rfl)⟩, by (first | (focus (simp only [go_sem, ↓reduceIte, simprocAttr, t13]; first | done | rfl)) | rfl), by (first | (focus (simp only [go_sem, ↓reduceIte, simprocAttr]; first | done | rfl)) | rfl)⟩ ?_
      clear t1 t5 t7 t8 t9 t10 t11 t12 t13 T hqc hrec hx wn
      have h14b := h14
      generalize hX : K ++ [AObj.cells [[iv n', iv q.item.cls, iv q.item.made, iv q.item.size, iv q.item.pk]] 23] = K1 at *
      generalize K.length = yb at *
      clear hX hG1 hK K
      rintro T ⟨⟨t1, t5, t7, t8, t9, t10, t11, t12⟩, t13, t14⟩
      repeat' (first | refine spD (fun _ => ?_) (fun _ => ?_) | refine spF (fun _ => ?_) (fun _ => ?_) | (apply gT; (exact rfl)) | (apply off; (exact rfl); (exact rfl)) | (apply condT; (exact rfl)) | (apply condF; (exact rfl)) | ((first | (apply stp0; (exact rfl); (exact rfl)) | (apply stpN0; (exact rfl)) | apply gT | apply condT | ((first | apply bodyQ_d0 | apply bodyQ_d1 | apply bodyQ_d2 | apply bodyQ_d3 | apply bodyQ_d4); (exact .inr rfl); (rw [Try.results12]))); (first | (focus (simp only [go_sem, ↓reduceIte, simprocAttr, t5, t14, h14] <;> rfl)) | exact rfl); (first | (fail_if_success (show okD _ _ _ _ _ _ _ _ _)) | (first | exact okT | exact okN | exact okE rfl)); (first | (fail_if_success (show Bel _ _)) | (focus first | exact .val _ | (simp [oneOf, Bel_iff_tup, Bel_iff_agg, Bel_iff_rsl, Bel_iff_fn, Bel_iff_rptr, Bel_val]; done)))) | refine thenQ_n ?_ | refine thenQ_r ?_ | refine thenQ_e ?_ | refine blockQ_n ?_ | refine blockQ_r ?_ | refine blockQ_e ?_ | (apply blockQ_o; (exact rfl)) | refine Awp.seq ?_ | refine Awp.skip ?_ | refine Awp.block ?_ | refine reg (fun s => s == 12 || s == 14 || s == 22 || s == 31) ?_ | (apply drwE mixed (fun s => s == 12 || s == 14 || s == 22 || s == 31); (kernel_rfl)) | refine fin ?_ | refine Awp.ret ?_ | refine Awp.exit ?_ | ((first | (apply off; (exact rfl)) | apply condF); (first | (focus (simp only [go_sem, ↓reduceIte, simprocAttr, t5, t14, h14] <;> rfl)) | exact rfl)))
      all_goals first | contradiction | skip
      refine cal rfl rfl rfl ?_ (show ACallV Try.prog (.fn (.func 24) []) [.mptr F.b 0 0, .agg [iv n', iv q.item.cls, iv q.item.made, iv q.item.size, iv q.item.pk]] K1 _ from hput) ?_
      · (first | (focus (simp only [go_sem, ↓reduceIte, simprocAttr, t5]; first | done | rfl)) | rfl)
      rintro v1 K2 ⟨w2, rfl, hR2, hF2, _⟩
      have h2 := hK1.prog hR2 hF2
      have hx2 := hF2.cells hK1.rep hx1 (by decide) (by decide)
      have h142 := hF2.cells hK1.rep h14 (by decide) (by decide)
      rcases putE_ok S { q.item with id := (n' : Int) } with ⟨c, _, h⟩ | ⟨_, _, ⟨c, h⟩ | ⟨_, ⟨_, hE⟩ | ⟨_, hE⟩⟩⟩
      · exact absurd hok c
      · exact absurd c hI.fresh
      · have hS : putR S { q.item with id := (n' : Int) } = (S, []) := by unfold putR; rw [if_neg (by rw [hE]; decide)]
        rw [hS] at h2
        repeat' (first | refine spD (fun _ => ?_) (fun _ => ?_) | refine spF (fun _ => ?_) (fun _ => ?_) | (apply gT; (exact rfl)) | (apply off; (exact rfl); (exact rfl)) | (apply condT; (exact rfl)) | (apply condF; (exact rfl)) | ((first | (apply stp0; (exact rfl); (exact rfl)) | (apply stpN0; (exact rfl)) | apply gT | apply condT | ((first | apply bodyQ_d0 | apply bodyQ_d1 | apply bodyQ_d2 | apply bodyQ_d3 | apply bodyQ_d4); (exact .inr rfl); (rw [Try.results12]))); (first | (focus (simp only [go_sem, ↓reduceIte, simprocAttr, hE, t5, t7, t13, hsu] <;> rfl)) | exact rfl); (first | (fail_if_success (show okD _ _ _ _ _ _ _ _ _)) | (first | exact okT | exact okN | exact okE rfl)); (first | (fail_if_success (show Bel _ _)) | (focus first | exact .val _ | (simp [oneOf, Bel_iff_tup, Bel_iff_agg, Bel_iff_rsl, Bel_iff_fn, Bel_iff_rptr, Bel_val]; done)))) | refine thenQ_n ?_ | refine thenQ_r ?_ | refine thenQ_e ?_ | refine blockQ_n ?_ | refine blockQ_r ?_ | refine blockQ_e ?_ | (apply blockQ_o; (exact rfl)) | refine Awp.seq ?_ | refine Awp.skip ?_ | refine Awp.block ?_ | refine reg (fun s => s == 12 || s == 14 || s == 22 || s == 31) ?_ | (apply drwE mixed (fun s => s == 12 || s == 14 || s == 22 || s == 31); (kernel_rfl)) | refine fin ?_ | refine Awp.ret ?_ | refine Awp.exit ?_ | ((first | (apply off; (exact rfl)) | apply condF); (first | (focus (simp only [go_sem, ↓reduceIte, simprocAttr, hE, t5, t7, t13, hsu] <;> rfl)) | exact rfl)))
        all_goals first | contradiction | skip
        exact ⟨k + 1, ⟨hkl, by omega, by (first | (focus (simp only [go_sem, ↓reduceIte, simprocAttr, hsu]; first | done | rfl)) | rfl), n' + 1, w2, S, G, g, by omega, ⟨by (first | (focus (simp only [go_sem, ↓reduceIte, simprocAttr, t1]; first | done | rfl)) | rfl), by (first | (focus (simp only [go_sem, ↓reduceIte, simprocAttr, t5]; first | done | rfl)) | rfl), by (first | (focus (simp only [go_sem, ↓reduceIte, simprocAttr, t7]; first | done | rfl)) | rfl), by (first | (focus (simp only [go_sem, ↓reduceIte, simprocAttr, t8]; first | done | rfl)) | rfl), by (first | (focus (simp only [go_sem, ↓reduceIte, simprocAttr, t9]; first | done | rfl)) | rfl), by (first | (focus (simp only [go_sem, ↓reduceIte, simprocAttr, t10]; first | done | rfl)) | rfl), by (first | (focus (simp only [go_sem, ↓reduceIte, simprocAttr, t11]; first | done | rfl)) | rfl), by (first | (focus (simp only [go_sem, ↓reduceIte, simprocAttr, t12]; first | done | rfl)) | rfl)⟩, h2, hI.skip, hx2⟩, by omega⟩
      · have hin := hI.put_in hSl (y := { q.item with id := (n' : Int) }) rfl hE
        have hInv := fun g' => hI.put hSl (y := { q.item with id := (n' : Int) }) rfl hok hE (g' := g')
        rw [hE]
        have hgl := hI.gl
        have hdl0 : (putR S { q.item with id := (n' : Int) }).2.length ≤ 300 := by
          have h1 := kept hI.good hSl hE
          have := h1.len
          omega
        generalize (putR S { q.item with id := (n' : Int) }).1 = S' at *
        generalize (putR S { q.item with id := (n' : Int) }).2 = ds at *
        obtain ⟨ka, hka, h3⟩ := h2.put n' { q.item with id := (n' : Int) }
        have hu := mT40.upd hka n' (.agg [iv n', iv q.item.cls, iv q.item.made, iv q.item.size, iv q.item.pk])
        have hx3 : (K2.set al (.amap (ents (setM n' (.agg [iv n', iv q.item.cls, iv q.item.made, iv q.item.size, iv q.item.pk]) ka))))[rb]? = some (.cells [p.cs] 104) := by
          rw [List.getElem?_set_ne (fun e => by rw [e, hx2] at hka; cases hka)]; exact hx2
        simp only [Item.cs] at h3
        have hdl := ints_len ds
        have hdm : ds.length ≤ maxLen := by simp only [maxLen]; omega
        repeat' ((fail_if_success (apply stopR (id := 27))); (fail_if_success (apply stopS (id := 27))); first | refine spD (fun _ => ?_) (fun _ => ?_) | refine spF (fun _ => ?_) (fun _ => ?_) | (apply gT; (exact rfl)) | (apply off; (exact rfl); (exact rfl)) | (apply condT; (exact rfl)) | (apply condF; (exact rfl)) | ((first | (apply stp0; (exact rfl); (exact rfl)) | (apply stpN0; (exact rfl)) | apply gT | apply condT | ((first | apply bodyQ_d0 | apply bodyQ_d1 | apply bodyQ_d2 | apply bodyQ_d3 | apply bodyQ_d4); (exact .inr rfl); (rw [Try.results12]))); (first | (focus (simp only [go_sem, ↓reduceIte, simprocAttr, t5, t7, t8, t13, t14, h142, hu] <;> rfl)) | exact rfl); (first | (fail_if_success (show okD _ _ _ _ _ _ _ _ _)) | (first | exact okT | exact okN | exact okE rfl)); (first | (fail_if_success (show Bel _ _)) | (focus first | exact .val _ | (simp [oneOf, Bel_iff_tup, Bel_iff_agg, Bel_iff_rsl, Bel_iff_fn, Bel_iff_rptr, Bel_val]; done)))) | refine thenQ_n ?_ | refine thenQ_r ?_ | refine thenQ_e ?_ | refine blockQ_n ?_ | refine blockQ_r ?_ | refine blockQ_e ?_ | (apply blockQ_o; (exact rfl)) | refine Awp.seq ?_ | refine Awp.skip ?_ | refine Awp.block ?_ | refine reg (fun s => s == 12 || s == 14 || s == 22 || s == 31) ?_ | (apply drwE mixed (fun s => s == 12 || s == 14 || s == 22 || s == 31); (kernel_rfl)) | refine fin ?_ | refine Awp.ret ?_ | refine Awp.exit ?_ | ((first | (apply off; (exact rfl)) | apply condF); (first | (focus (simp only [go_sem, ↓reduceIte, simprocAttr, t5, t7, t8, t13, t14, h142, hu] <;> rfl)) | exact rfl)))
        all_goals first | contradiction | skip
        refine Awp.withT (fun T' => E12 rs ex F.b m al gn ((n' : Int) + 1) i rb T' ∧ T' 13 = iv k ∧ T' 15 = .rsl (ints ds) false) ⟨⟨by (first | (focus (simp only [go_sem, ↓reduceIte, simprocAttr, t1]; first | done | rfl)) | rfl), by (first | (focus (simp only [go_sem, ↓reduceIte, simprocAttr, t5]; first | done | rfl)) | rfl), by (first | (focus (simp only [go_sem, ↓reduceIte, simprocAttr, t7]; first | done | rfl)) | rfl), by (first | (focus (simp only [go_sem, ↓reduceIte, simprocAttr, t8]; first | done | rfl)) | rfl), by (first | (focus (simp only [go_sem, ↓reduceIte, simprocAttr, t9]; first | done | rfl)) | rfl), by (first | (focus (simp only [go_sem, ↓reduceIte, simprocAttr, t10]; first | done | rfl)) | rfl), by (first | (focus (simp only [go_sem, ↓reduceIte, simprocAttr, t11]; first | done | rfl)) | rfl), by (first | (focus (simp only [go_sem, ↓reduceIte, simprocAttr, t12]; first | done | rfl)) | rfl)⟩, by (first | (focus (simp only [go_sem, ↓reduceIte, simprocAttr, t13]; first | done | rfl)) | rfl), by (first | (focus (simp only [go_sem, ↓reduceIte, simprocAttr]; first | done | rfl)) | rfl)⟩ ?_
        clear t1 t5 t7 t8 t9 t10 t11 t12 t13 t14 T hu h142 h14 h14b hx1 hx2 hK1 hF2 hR2 hput h2 hka
        generalize K2.set al (.amap (ents (setM n' (.agg [iv n', iv q.item.cls, iv q.item.made, iv q.item.size, iv q.item.pk]) ka))) = K3 at *
        rintro T ⟨⟨t1, t5, t7, t8, t9, t10, t11, t12⟩, t13, t15⟩
        repeat' (first | refine spD (fun _ => ?_) (fun _ => ?_) | refine spF (fun _ => ?_) (fun _ => ?_) | (apply gT; (exact rfl)) | (apply off; (exact rfl); (exact rfl)) | (apply condT; (exact rfl)) | (apply condF; (exact rfl)) | ((first | (apply stp0; (exact rfl); (exact rfl)) | (apply stpN0; (exact rfl)) | apply gT | apply condT | ((first | apply bodyQ_d0 | apply bodyQ_d1 | apply bodyQ_d2 | apply bodyQ_d3 | apply bodyQ_d4); (exact .inr rfl); (rw [Try.results12]))); (first | (focus (simp only [go_sem, ↓reduceIte, simprocAttr, t1, t5, t7, t8, t9, t10, t11, t12, t13, t15] <;> rfl)) | exact rfl); (first | (fail_if_success (show okD _ _ _ _ _ _ _ _ _)) | (first | exact okT | exact okN | exact okE rfl)); (first | (fail_if_success (show Bel _ _)) | (focus first | exact .val _ | (simp [oneOf, Bel_iff_tup, Bel_iff_agg, Bel_iff_rsl, Bel_iff_fn, Bel_iff_rptr, Bel_val]; done)))) | refine thenQ_n ?_ | refine thenQ_r ?_ | refine thenQ_e ?_ | refine blockQ_n ?_ | refine blockQ_r ?_ | refine blockQ_e ?_ | (apply blockQ_o; (exact rfl)) | refine Awp.seq ?_ | refine Awp.skip ?_ | refine Awp.block ?_ | refine reg (fun s => s == 12 || s == 14 || s == 22 || s == 31) ?_ | (apply drwE mixed (fun s => s == 12 || s == 14 || s == 22 || s == 31); (kernel_rfl)) | refine fin ?_ | refine Awp.ret ?_ | refine Awp.exit ?_ | ((first | (apply off; (exact rfl)) | apply condF); (first | (focus (simp only [go_sem, ↓reduceIte, simprocAttr, t1, t5, t7, t8, t9, t10, t11, t12, t13, t15] <;> rfl)) | exact rfl)))
        all_goals first | contradiction | skip
        refine Awp.mono (Q := fun e T' K' => e = .exit 4 ∧ T' 13 = iv k ∧ E12 rs ex F.b m al gn ((n' : Int) + 1) i rb T' ∧ ∃ g', g'.length = 100 ∧ (∀ d ∈ ds, g'[d.toNat]? = some true) ∧ (∀ i : Nat, g[i]? = some true → g'[i]? = some true) ∧ Lk K' F w2 S' m R al gn (fun x => if x = n' then some { q.item with id := (n' : Int) } else G x) g' ∧ K'[rb]? = some (.cells [p.cs] 104)) ?_ ?_
        · refine Awp.loop (ι := Nat) (fun j T' K' => j ≤ ds.length ∧ T' 17 = iv j ∧ T' 13 = iv k ∧ T' 15 = .rsl (ints ds) false ∧ E12 rs ex F.b m al gn ((n' : Int) + 1) i rb T' ∧ ∃ g', g'.length = 100 ∧ (∀ d ∈ ds.take j, g'[d.toNat]? = some true) ∧ (∀ i : Nat, g[i]? = some true → g'[i]? = some true) ∧ Lk K' F w2 S' m R al gn (fun x => if x = n' then some { q.item with id := (n' : Int) } else G x) g' ∧ K'[rb]? = some (.cells [p.cs] 104)) (fun j => ds.length - j) 0 ?_ ?_
          · exact ⟨Nat.zero_le _, by (first | (focus (simp only [go_sem, ↓reduceIte, simprocAttr]; first | done | rfl)) | rfl), by (first | (focus (simp only [go_sem, ↓reduceIte, simprocAttr, t13]; first | done | rfl)) | rfl), by (first | (focus (simp only [go_sem, ↓reduceIte, simprocAttr, t15]; first | done | rfl)) | rfl), ⟨by (first | (focus (simp only [go_sem, ↓reduceIte, simprocAttr, t1]; first | done | rfl)) | rfl), by (first | (focus (simp only [go_sem, ↓reduceIte, simprocAttr, t5]; first | done | rfl)) | rfl), by (first | (focus (simp only [go_sem, ↓reduceIte, simprocAttr, t7]; first | done | rfl)) | rfl), by (first | (focus (simp only [go_sem, ↓reduceIte, simprocAttr, t8]; first | done | rfl)) | rfl), by (first | (focus (simp only [go_sem, ↓reduceIte, simprocAttr, t9]; first | done | rfl)) | rfl), by (first | (focus (simp only [go_sem, ↓reduceIte, simprocAttr, t10]; first | done | rfl)) | rfl), by (first | (focus (simp only [go_sem, ↓reduceIte, simprocAttr, t11]; first | done | rfl)) | rfl), by (first | (focus (simp only [go_sem, ↓reduceIte, simprocAttr, t12]; first | done | rfl)) | rfl)⟩, g, hgl, by simp, fun _ h => h, h3, hx3⟩
          clear t1 t5 t7 t8 t9 t10 t11 t12 t13 t15 T h3 hx3 K3
          rintro j T K ⟨hj, t17, t13, t15, ⟨t1, t5, t7, t8, t9, t10, t11, t12⟩, g', g1, g2, g3, hL, hx⟩
          by_cases hjl : j < ds.length
          · obtain ⟨d, hd⟩ := nth hjl
            have hdc : (ints ds)[j]? = some [iv d] := nthMap (fun x => [iv x]) hd
            obtain ⟨d0, d1⟩ := hin d (List.mem_of_getElem? hd)
            have hsj := wsucc hjl hdm
            have hd100 : d < 100 := by omega
            obtain ⟨y, hy⟩ := nth (l := g') (i := d.toNat) (by omega)
            have hg := hL.gon
            have hgc := bls_at hy
            have hgs := bls_set g' d.toNat true
            have hbl := bls_len g'
            have hdn : d.toNat < 100 := by omega
            have nd0 : ¬ d < 0 := by omega
            have nd1 : ¬ d ≥ (n' : Int) + 1 := by omega
            repeat' (first | refine spD (fun _ => ?_) (fun _ => ?_) | refine spF (fun _ => ?_) (fun _ => ?_) | (apply gT; (exact rfl)) | (apply off; (exact rfl); (exact rfl)) | (apply condT; (exact rfl)) | (apply condF; (exact rfl)) | ((first | (apply stp0; (exact rfl); (exact rfl)) | (apply stpN0; (exact rfl)) | apply gT | apply condT | ((first | apply bodyQ_d0 | apply bodyQ_d1 | apply bodyQ_d2 | apply bodyQ_d3 | apply bodyQ_d4); (exact .inr rfl); (rw [Try.results12]))); (first | (focus (simp only [go_sem, ↓reduceIte, simprocAttr, Int.ofNat_lt.2 hjl, t1, t5, t7, t8, t9, t10, t11, t12, t13, t15, t17, hdl, hdc, nd0, nd1, hg, hgc, hgs, hbl, hdn, hsj, d0, Nat.zero_add] <;> rfl)) | exact rfl); (first | (fail_if_success (show okD _ _ _ _ _ _ _ _ _)) | (first | exact okT | exact okN | exact okE rfl)); (first | (fail_if_success (show Bel _ _)) | (focus first | exact .val _ | (simp [oneOf, Bel_iff_tup, Bel_iff_agg, Bel_iff_rsl, Bel_iff_fn, Bel_iff_rptr, Bel_val]; done)))) | refine thenQ_n ?_ | refine thenQ_r ?_ | refine thenQ_e ?_ | refine blockQ_n ?_ | refine blockQ_r ?_ | refine blockQ_e ?_ | (apply blockQ_o; (exact rfl)) | refine Awp.seq ?_ | refine Awp.skip ?_ | refine Awp.block ?_ | refine reg (fun s => s == 12 || s == 14 || s == 22 || s == 31) ?_ | (apply drwE mixed (fun s => s == 12 || s == 14 || s == 22 || s == 31); (kernel_rfl)) | refine fin ?_ | refine Awp.ret ?_ | refine Awp.exit ?_ | ((first | (apply off; (exact rfl)) | apply condF); (first | (focus (simp only [go_sem, ↓reduceIte, simprocAttr, Int.ofNat_lt.2 hjl, t1, t5, t7, t8, t9, t10, t11, t12, t13, t15, t17, hdl, hdc, nd0, nd1, hg, hgc, hgs, hbl, hdn, hsj, d0, Nat.zero_add] <;> rfl)) | exact rfl)))
            all_goals first | contradiction | skip
            refine ⟨j + 1, ⟨hjl, by (first | (focus (simp only [go_sem, ↓reduceIte, simprocAttr, hsj]; first | done | rfl)) | rfl), by (first | (focus (simp only [go_sem, ↓reduceIte, simprocAttr, t13]; first | done | rfl)) | rfl), by (first | (focus (simp only [go_sem, ↓reduceIte, simprocAttr, t15]; first | done | rfl)) | rfl), ⟨by (first | (focus (simp only [go_sem, ↓reduceIte, simprocAttr, t1]; first | done | rfl)) | rfl), by (first | (focus (simp only [go_sem, ↓reduceIte, simprocAttr, t5]; first | done | rfl)) | rfl), by (first | (focus (simp only [go_sem, ↓reduceIte, simprocAttr, t7]; first | done | rfl)) | rfl), by (first | (focus (simp only [go_sem, ↓reduceIte, simprocAttr, t8]; first | done | rfl)) | rfl), by (first | (focus (simp only [go_sem, ↓reduceIte, simprocAttr, t9]; first | done | rfl)) | rfl), by (first | (focus (simp only [go_sem, ↓reduceIte, simprocAttr, t10]; first | done | rfl)) | rfl), by (first | (focus (simp only [go_sem, ↓reduceIte, simprocAttr, t11]; first | done | rfl)) | rfl), by (first | (focus (simp only [go_sem, ↓reduceIte, simprocAttr, t12]; first | done | rfl)) | rfl)⟩, g'.set d.toNat true, by rw [List.length_set]; exact g1, noted hd ⟨d0, hd100⟩ g1 g2, fun i hi => ?_, hL.note _, ?_⟩, Nat.sub_lt_sub_left hjl (Nat.lt_succ_self j)⟩
            · by_cases e : d.toNat = i
              · rw [e, List.getElem?_set_self (by have := (List.getElem?_eq_some_iff.1 (g3 i hi)).1; omega)]
              · rw [List.getElem?_set_ne e]; exact g3 i hi
            · rw [List.getElem?_set_ne (fun e => by rw [e, hx] at hg; exact absurd (AObj.cells.inj (Option.some.inj hg)).2 (by decide))]; exact hx
          · have hje : j = ds.length := Nat.le_antisymm hj (Nat.not_lt.1 hjl)
            subst hje
            rw [List.take_length] at g2
            repeat' (first | refine spD (fun _ => ?_) (fun _ => ?_) | refine spF (fun _ => ?_) (fun _ => ?_) | (apply gT; (exact rfl)) | (apply off; (exact rfl); (exact rfl)) | (apply condT; (exact rfl)) | (apply condF; (exact rfl)) | ((first | (apply stp0; (exact rfl); (exact rfl)) | (apply stpN0; (exact rfl)) | apply gT | apply condT | ((first | apply bodyQ_d0 | apply bodyQ_d1 | apply bodyQ_d2 | apply bodyQ_d3 | apply bodyQ_d4); (exact .inr rfl); (rw [Try.results12]))); (first | (focus (simp only [go_sem, ↓reduceIte, simprocAttr, Int.lt_irrefl, t15, t17, hdl] <;> rfl)) | exact rfl); (first | (fail_if_success (show okD _ _ _ _ _ _ _ _ _)) | (first | exact okT | exact okN | exact okE rfl)); (first | (fail_if_success (show Bel _ _)) | (focus first | exact .val _ | (simp [oneOf, Bel_iff_tup, Bel_iff_agg, Bel_iff_rsl, Bel_iff_fn, Bel_iff_rptr, Bel_val]; done)))) | refine thenQ_n ?_ | refine thenQ_r ?_ | refine thenQ_e ?_ | refine blockQ_n ?_ | refine blockQ_r ?_ | refine blockQ_e ?_ | (apply blockQ_o; (exact rfl)) | refine Awp.seq ?_ | refine Awp.skip ?_ | refine Awp.block ?_ | refine reg (fun s => s == 12 || s == 14 || s == 22 || s == 31) ?_ | (apply drwE mixed (fun s => s == 12 || s == 14 || s == 22 || s == 31); (kernel_rfl)) | refine fin ?_ | refine Awp.ret ?_ | refine Awp.exit ?_ | ((first | (apply off; (exact rfl)) | apply condF); (first | (focus (simp only [go_sem, ↓reduceIte, simprocAttr, Int.lt_irrefl, t15, t17, hdl] <;> rfl)) | exact rfl)))
            all_goals first | contradiction | skip
            exact ⟨rfl, by (first | (focus (simp only [go_sem, ↓reduceIte, simprocAttr, t13]; first | done | rfl)) | rfl), ⟨by (first | (focus (simp only [go_sem, ↓reduceIte, simprocAttr, t1]; first | done | rfl)) | rfl), by (first | (focus (simp only [go_sem, ↓reduceIte, simprocAttr, t5]; first | done | rfl)) | rfl), by (first | (focus (simp only [go_sem, ↓reduceIte, simprocAttr, t7]; first | done | rfl)) | rfl), by (first | (focus (simp only [go_sem, ↓reduceIte, simprocAttr, t8]; first | done | rfl)) | rfl), by (first | (focus (simp only [go_sem, ↓reduceIte, simprocAttr, t9]; first | done | rfl)) | rfl), by (first | (focus (simp only [go_sem, ↓reduceIte, simprocAttr, t10]; first | done | rfl)) | rfl), by (first | (focus (simp only [go_sem, ↓reduceIte, simprocAttr, t11]; first | done | rfl)) | rfl), by (first | (focus (simp only [go_sem, ↓reduceIte, simprocAttr, t12]; first | done | rfl)) | rfl)⟩, g', g1, g2, g3, hL, hx⟩
        clear t1 t5 t7 t8 t9 t10 t11 t12 t13 t15 T h3 hx3 K3
        rintro e T K ⟨rfl, t13, ⟨t1, t5, t7, t8, t9, t10, t11, t12⟩, g', g1, g2, g3, hL, hx⟩
        have hI2 := hInv g' g1 g2 g3
        repeat' (first | refine spD (fun _ => ?_) (fun _ => ?_) | refine spF (fun _ => ?_) (fun _ => ?_) | (apply gT; (exact rfl)) | (apply off; (exact rfl); (exact rfl)) | (apply condT; (exact rfl)) | (apply condF; (exact rfl)) | ((first | (apply stp0; (exact rfl); (exact rfl)) | (apply stpN0; (exact rfl)) | apply gT | apply condT | ((first | apply bodyQ_d0 | apply bodyQ_d1 | apply bodyQ_d2 | apply bodyQ_d3 | apply bodyQ_d4); (exact .inr rfl); (rw [Try.results12]))); (first | (focus (simp only [go_sem, ↓reduceIte, simprocAttr, t13, hsu] <;> rfl)) | exact rfl); (first | (fail_if_success (show okD _ _ _ _ _ _ _ _ _)) | (first | exact okT | exact okN | exact okE rfl)); (first | (fail_if_success (show Bel _ _)) | (focus first | exact .val _ | (simp [oneOf, Bel_iff_tup, Bel_iff_agg, Bel_iff_rsl, Bel_iff_fn, Bel_iff_rptr, Bel_val]; done)))) | refine thenQ_n ?_ | refine thenQ_r ?_ | refine thenQ_e ?_ | refine blockQ_n ?_ | refine blockQ_r ?_ | refine blockQ_e ?_ | (apply blockQ_o; (exact rfl)) | refine Awp.seq ?_ | refine Awp.skip ?_ | refine Awp.block ?_ | refine reg (fun s => s == 12 || s == 14 || s == 22 || s == 31) ?_ | (apply drwE mixed (fun s => s == 12 || s == 14 || s == 22 || s == 31); (kernel_rfl)) | refine fin ?_ | refine Awp.ret ?_ | refine Awp.exit ?_ | ((first | (apply off; (exact rfl)) | apply condF); (first | (focus (simp only [go_sem, ↓reduceIte, simprocAttr, t13, hsu] <;> rfl)) | exact rfl)))
        all_goals first | contradiction | skip
        exact ⟨k + 1, ⟨hkl, by omega, by (first | (focus (simp only [go_sem, ↓reduceIte, simprocAttr, hsu]; first | done | rfl)) | rfl), n' + 1, w2, S', _, g', by omega, ⟨by (first | (focus (simp only [go_sem, ↓reduceIte, simprocAttr, t1]; first | done | rfl)) | rfl), by (first | (focus (simp only [go_sem, ↓reduceIte, simprocAttr, t5]; first | done | rfl)) | rfl), by (first | (focus (simp only [go_sem, ↓reduceIte, simprocAttr, t7]; first | done | rfl)) | rfl), by (first | (focus (simp only [go_sem, ↓reduceIte, simprocAttr, t8]; first | done | rfl)) | rfl), by (first | (focus (simp only [go_sem, ↓reduceIte, simprocAttr, t9]; first | done | rfl)) | rfl), by (first | (focus (simp only [go_sem, ↓reduceIte, simprocAttr, t10]; first | done | rfl)) | rfl), by (first | (focus (simp only [go_sem, ↓reduceIte, simprocAttr, t11]; first | done | rfl)) | rfl), by (first | (focus (simp only [go_sem, ↓reduceIte, simprocAttr, t12]; first | done | rfl)) | rfl)⟩, hL, hI2, hx⟩, by omega⟩
    · repeat' (first | refine spD (fun _ => ?_) (fun _ => ?_) | refine spF (fun _ => ?_) (fun _ => ?_) | (apply gT; (exact rfl)) | (apply off; (exact rfl); (exact rfl)) | (apply condT; (exact rfl)) | (apply condF; (exact rfl)) | ((first | (apply stp0; (exact rfl); (exact rfl)) | (apply stpN0; (exact rfl)) | apply gT | apply condT | ((first | apply bodyQ_d0 | apply bodyQ_d1 | apply bodyQ_d2 | apply bodyQ_d3 | apply bodyQ_d4); (exact .inr rfl); (rw [Try.results12]))); (first | (focus (simp only [go_sem, ↓reduceIte, simprocAttr, Int.ofNat_lt.2 hkl, hk6, t12, t13, hpl, hx] <;> rfl)) | exact rfl); (first | (fail_if_success (show okD _ _ _ _ _ _ _ _ _)) | (first | exact okT | exact okN | exact okE rfl)); (first | (fail_if_success (show Bel _ _)) | (focus first | exact .val _ | (simp [oneOf, Bel_iff_tup, Bel_iff_agg, Bel_iff_rsl, Bel_iff_fn, Bel_iff_rptr, Bel_val]; done)))) | refine thenQ_n ?_ | refine thenQ_r ?_ | refine thenQ_e ?_ | refine blockQ_n ?_ | refine blockQ_r ?_ | refine blockQ_e ?_ | (apply blockQ_o; (exact rfl)) | refine Awp.seq ?_ | refine Awp.skip ?_ | refine Awp.block ?_ | refine reg (fun s => s == 12 || s == 14 || s == 22 || s == 31) ?_ | (apply drwE mixed (fun s => s == 12 || s == 14 || s == 22 || s == 31); (kernel_rfl)) | refine fin ?_ | refine Awp.ret ?_ | refine Awp.exit ?_ | ((first | (apply off; (exact rfl)) | apply condF); (first | (focus (simp only [go_sem, ↓reduceIte, simprocAttr, Int.ofNat_lt.2 hkl, hk6, t12, t13, hpl, hx] <;> rfl)) | exact rfl)))
      all_goals first | contradiction | skip
      exact ⟨rfl, n', w, S, R, G, g, ⟨by (first | (focus (simp only [go_sem, ↓reduceIte, simprocAttr, t1]; first | done | rfl)) | rfl), by (first | (focus (simp only [go_sem, ↓reduceIte, simprocAttr, t5]; first | done | rfl)) | rfl), by (first | (focus (simp only [go_sem, ↓reduceIte, simprocAttr, t7]; first | done | rfl)) | rfl), by (first | (focus (simp only [go_sem, ↓reduceIte, simprocAttr, t8]; first | done | rfl)) | rfl), by (first | (focus (simp only [go_sem, ↓reduceIte, simprocAttr, t9]; first | done | rfl)) | rfl), by (first | (focus (simp only [go_sem, ↓reduceIte, simprocAttr, t10]; first | done | rfl)) | rfl), by (first | (focus (simp only [go_sem, ↓reduceIte, simprocAttr, t11]; first | done | rfl)) | rfl), by (first | (focus (simp only [go_sem, ↓reduceIte, simprocAttr, t12]; first | done | rfl)) | rfl)⟩, hK, hI, hx, by omega, rfl⟩
  · have hke : k = p.M.length := Nat.le_antisymm hk1 (Nat.not_lt.1 hkl)
    rw [hke] at t13
    repeat' (first | refine spD (fun _ => ?_) (fun _ => ?_) | refine spF (fun _ => ?_) (fun _ => ?_) | (apply gT; (exact rfl)) | (apply off; (exact rfl); (exact rfl)) | (apply condT; (exact rfl)) | (apply condF; (exact rfl)) | ((first | (apply stp0; (exact rfl); (exact rfl)) | (apply stpN0; (exact rfl)) | apply gT | apply condT | ((first | apply bodyQ_d0 | apply bodyQ_d1 | apply bodyQ_d2 | apply bodyQ_d3 | apply bodyQ_d4); (exact .inr rfl); (rw [Try.results12]))); (first | (focus (simp only [go_sem, ↓reduceIte, simprocAttr, Int.lt_irrefl, t12, t13, hpl, hx] <;> rfl)) | exact rfl); (first | (fail_if_success (show okD _ _ _ _ _ _ _ _ _)) | (first | exact okT | exact okN | exact okE rfl)); (first | (fail_if_success (show Bel _ _)) | (focus first | exact .val _ | (simp [oneOf, Bel_iff_tup, Bel_iff_agg, Bel_iff_rsl, Bel_iff_fn, Bel_iff_rptr, Bel_val]; done)))) | refine thenQ_n ?_ | refine thenQ_r ?_ | refine thenQ_e ?_ | refine blockQ_n ?_ | refine blockQ_r ?_ | refine blockQ_e ?_ | (apply blockQ_o; (exact rfl)) | refine Awp.seq ?_ | refine Awp.skip ?_ | refine Awp.block ?_ | refine reg (fun s => s == 12 || s == 14 || s == 22 || s == 31) ?_ | (apply drwE mixed (fun s => s == 12 || s == 14 || s == 22 || s == 31); (kernel_rfl)) | refine fin ?_ | refine Awp.ret ?_ | refine Awp.exit ?_ | ((first | (apply off; (exact rfl)) | apply condF); (first | (focus (simp only [go_sem, ↓reduceIte, simprocAttr, Int.lt_irrefl, t12, t13, hpl, hx] <;> rfl)) | exact rfl)))
    all_goals first | contradiction | skip
    exact ⟨rfl, n', w, S, R, G, g, ⟨by (first | (focus (simp only [go_sem, ↓reduceIte, simprocAttr, t1]; first | done | rfl)) | rfl), by (first | (focus (simp only [go_sem, ↓reduceIte, simprocAttr, t5]; first | done | rfl)) | rfl), by (first | (focus (simp only [go_sem, ↓reduceIte, simprocAttr, t7]; first | done | rfl)) | rfl), by (first | (focus (simp only [go_sem, ↓reduceIte, simprocAttr, t8]; first | done | rfl)) | rfl), by (first | (focus (simp only [go_sem, ↓reduceIte, simprocAttr, t9]; first | done | rfl)) | rfl), by (first | (focus (simp only [go_sem, ↓reduceIte, simprocAttr, t10]; first | done | rfl)) | rfl), by (first | (focus (simp only [go_sem, ↓reduceIte, simprocAttr, t11]; first | done | rfl)) | rfl), by (first | (focus (simp only [go_sem, ↓reduceIte, simprocAttr, t12]; first | done | rfl)) | rfl)⟩, hK, hI, hx, by omega, rfl⟩

end Go.Proofs.Ytlhchnnfgppneaa.Ab
