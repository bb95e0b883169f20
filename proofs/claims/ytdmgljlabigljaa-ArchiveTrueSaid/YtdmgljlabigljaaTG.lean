/- Archive: copy to a whole row of one's own; New. -/
import Derived.Test.YtdmgljlabigljaaTF
namespace Go.Proofs.Ytdmgljlabigljaa.Ab
open Go Go.RowKit Go.Proofs
set_option linter.unusedSimpArgs false
set_option linter.unusedVariables false
attribute [local irreducible] Awp wpO thenQ blockQ bodyQ ACalls stepA

section
variable {P : Program} {T : Env} {H : Hp} {ty : TypeId} {pos : String} {aft : Array Edge} {d : Option Tmp} {gd : Option (Nat × Bool)} {t e : TypeId} {x y : Operand} {b : Nat}
/-- copy to all of a row of one's own -/
theorem OpOK.copyAll {es xs : List (List AV)} {ex : Bool} {inf : TypeInfo} (hu : P.underlying t = some (.slice e)) (hi : P.info? e = some inf) (hk : 0 < inf.size) (hx : evA T x = .msl b 0 es.length) (hb : H[b]? = some (.cells es e)) (hes : es.all (fun c => c.length == inf.size) = true) (h0 : 0 < es.length)
    (hy : evA T y = .rsl xs ex) (hxl : xs.length = es.length) (hxs : xs.all (fun c => c.length == inf.size) = true) (hc : xs.all (fun e => e.all AV.isCell) = true) :
    OpOK P ⟨d, .call ⟨.builtin .copy, #[x, y], #[t, t]⟩, ty, pos, aft, gd⟩ T H fun v H' => v = .val (.int .i64 es.length) ∧ H' = H.set b (.cells xs e) := by
  refine OpOK.runs (fun c h => by cases h) fun base w0 g w a S hr => ?_
  have h1 := hr x (by simp [Op.operands, Call.operands])
  have h2 := hr y (by simp [Op.operands, Call.operands])
  rw [hx] at h1; rw [hy] at h2
  have hsrc := Src.rsl S h2 hk hxs (by omega)
  obtain ⟨ad, c, us, hyv, hF, hus⟩ := hsrc.at_
  obtain ⟨p, cap, cur, hxv, hp, hks, hlc, hcc, hcm, hw, hcur, hO⟩ := msl_flat S h1 hb (by omega) hes h0
  have hcp : g.cp b = cap := by omega
  rw [hcp] at hcur
  have hone := hF.one hc hk
  have hul := hF.size
  have e1 := Nat.mul_le_mul_right inf.size hlc
  rw [hxl] at hul
  have hst := run_storeCells_at P p 0 e us 0 cur w hw (by omega) hone
  have hfc := run_firstCells_some (P := P) w inf.size es.length ad xs.length c us hul hus
  have hex : ∀ consts, (builtin .copy #[t, t] ty consts #[a.eval x, a.eval y]).run P w = .ok (.value (.int .i64 es.length)) (w.setRow p (cur.toList.take 0 ++ us ++ cur.toList.drop (0 + us.length)).toArray) := by
    intro consts
    rw [hxv, hyv]
    rw [hxl] at hfc
    simp only [Nat.zero_mul] at *
    simp [builtin, Builtin.copy_, run_underlying hu, sizeOf, typeInfo, hi, Builtin.lenOf, hfc, hst, hxl, goInt, Nat.min_self]
  have hul2 : (cur.toList.take 0 ++ us ++ cur.toList.drop (0 + us.length)).toArray.size = cap * inf.size := by
    simp only [List.size_toArray, List.length_append, List.length_take, List.length_drop, Array.length_toList, hul, hcur]
    omega
  have hor : ORel g (g.ks b) (g.cp b) (.cells xs e) (.cells (cur.toList.take 0 ++ us ++ cur.toList.drop (0 + us.length)).toArray e (0, 0)) := by
    rw [hks, hcp]
    refine hF.orel hul2 (by rw [hxl]; exact hlc) ?_
    simp [hxl, ← hul]
  have S' := S.turn (ob' := .cells xs e) (w' := w.setRow p (cur.toList.take 0 ++ us ++ cur.toList.drop (0 + us.length)).toArray) hb (by simp) hp ⟨rfl, rfl, rfl, by simp [World.setRow], fun k _ hk => setRow_other w p k _ (fun e => hk (by simp [e]))⟩ (setRow_heap w p cur _ e _ hw) hor
  refine ⟨_, .int .i64 es.length, _, g, _, .inl ?_, ⟨rfl, rfl⟩, Gh.le.refl g, S', .val _⟩
  simp only [execOp, resolve, invoke, Sem.run_bind, Sem.run_pure, Result.andThen_ok]
  rw [show (#[x, y] : Array Operand).map a.eval = #[a.eval x, a.eval y] by simp]
  exact hex _
end

theorem updK_none {κ ε : Type} [DecidableEq κ] {k : κ} {e : ε} : ∀ {L : List (κ × ε)}, lookK k L = none → updK k e L = L ++ [(k, e)]
  | [], _ => rfl
  | p :: L, h => by
    unfold lookK at h
    unfold updK
    split at h
    · cases h
    · rename_i hne
      rw [if_neg hne, updK_none h]; rfl
def nmT (l : List Ser) : List (ByteArray × Unit) := l.map fun s => (s.name, ())
def goodS : List (ByteArray × Unit) → List Ser → Bool
  | _, [] => true
  | T, s :: l => nameB s.name && (lookK s.name T).isNone && spanB s.lo s.hi && goodS (T ++ [(s.name, ())]) l
theorem goodS_drop {S : List Ser} {i : Nat} {s : Ser} (h : S[i]? = some s) (T : List (ByteArray × Unit)) : goodS T (S.drop i) = (nameB s.name && (lookK s.name T).isNone && spanB s.lo s.hi && goodS (T ++ [(s.name, ())]) (S.drop (i + 1))) := by
  have hlt := (List.getElem?_eq_some_iff.1 h).1
  rw [List.drop_eq_getElem_cons hlt, (List.getElem?_eq_some_iff.1 h).2]
  rfl
theorem nmT_succ {S : List Ser} {i : Nat} {s : Ser} (h : S[i]? = some s) : nmT (S.take (i + 1)) = nmT (S.take i) ++ [(s.name, ())] := by
  unfold nmT
  rw [List.take_add_one, h, List.map_append]; rfl
def newC (S : List Ser) : Int := if S.length < 1 ∨ S.length > 16 then 6 else if goodS [] S = true then 0 else 2
def NewP (H : Hp) (S : List Ser) (v : AV) (K : Hp) : Prop :=
  (newC S ≠ 0 ∧ v = .tup [nilP, iv (newC S)] ∧ Grow H K) ∨
    (newC S = 0 ∧ ∃ p b, v = .tup [.mptr p 0 0, iv 0] ∧ H.length ≤ p ∧ H.length ≤ b ∧ K[p]? = some (.cells [[.rsl (sers S) false, .mp b]] 58) ∧ K[b]? = some (.amap []) ∧ Grow H K)
abbrev strA (s : ByteArray) : AV := .val (.string s)
abbrev unitA (_ : Unit) : AV := bv true

set_option maxRecDepth 8000 in
set_option maxHeartbeats 8000000 in
theorem New_ok (H : Hp) (S : List Ser) (ex : Bool) : ACalls Try.prog 13 [.rsl (sers S) ex] H (NewP H S) := by
  have hSl := sers_len S
  by_cases h1 : (S.length : Int) < 1
  · have e : newC S = 6 := by unfold newC; rw [if_pos (by omega)]
    refine ACalls.of_body Try.func13 rfl (by kernel_rfl) (by rw [Try.ntmps13]; simp) ?_; rw [Try.ntmps13]
    repeat' (first | refine spD (fun _ => ?_) (fun _ => ?_) | refine spF (fun _ => ?_) (fun _ => ?_) | (apply gT; (exact rfl)) | (apply off; (exact rfl); (exact rfl)) | (apply condT; (exact rfl)) | (apply condF; (exact rfl)) | ((first | (apply stp0; (exact rfl); (exact rfl)) | (apply stpN0; (exact rfl)) | apply gT | apply condT); (first | (focus (simp only [go_sem, ↓reduceIte, simprocAttr, hSl, h1] <;> rfl)) | exact rfl); (first | (fail_if_success (show okD _ _ _ _ _ _ _ _ _)) | (first | exact okT | exact okN | exact okE rfl))) | refine thenQ_n ?_ | refine thenQ_r ?_ | refine thenQ_e ?_ | refine blockQ_n ?_ | refine blockQ_r ?_ | refine blockQ_e ?_ | (apply blockQ_o; (exact rfl)) | refine Awp.seq ?_ | refine Awp.skip ?_ | refine Awp.block ?_ | refine reg (fun s => s == 6) ?_ | (apply drwE mixed (fun s => s == 6); (kernel_rfl)) | refine fin ?_ | refine Awp.ret ?_ | refine Awp.exit ?_ | ((first | (apply off; (exact rfl)) | apply condF); (first | (focus (simp only [go_sem, ↓reduceIte, simprocAttr, hSl, h1] <;> rfl)) | exact rfl)))
    all_goals first | contradiction | skip
    exact bodyQ_mk (vs := [nilP, iv 6]) (.inr rfl) (by rw [Try.results13]; first | (simp only [go_sem, ↓reduceIte, simprocAttr]; done) | (simp only [go_sem, ↓reduceIte, simprocAttr]; rfl)) (Vs.refl _ _ _) (.inl ⟨by rw [e]; decide, by rw [e]; rfl, Grow.refl _⟩)
  by_cases h2 : (S.length : Int) > 16
  · have e : newC S = 6 := by unfold newC; rw [if_pos (by omega)]
    refine ACalls.of_body Try.func13 rfl (by kernel_rfl) (by rw [Try.ntmps13]; simp) ?_; rw [Try.ntmps13]
    repeat' (first | refine spD (fun _ => ?_) (fun _ => ?_) | refine spF (fun _ => ?_) (fun _ => ?_) | (apply gT; (exact rfl)) | (apply off; (exact rfl); (exact rfl)) | (apply condT; (exact rfl)) | (apply condF; (exact rfl)) | ((first | (apply stp0; (exact rfl); (exact rfl)) | (apply stpN0; (exact rfl)) | apply gT | apply condT); (first | (focus (simp only [go_sem, ↓reduceIte, simprocAttr, hSl, h1, h2] <;> rfl)) | exact rfl); (first | (fail_if_success (show okD _ _ _ _ _ _ _ _ _)) | (first | exact okT | exact okN | exact okE rfl))) | refine thenQ_n ?_ | refine thenQ_r ?_ | refine thenQ_e ?_ | refine blockQ_n ?_ | refine blockQ_r ?_ | refine blockQ_e ?_ | (apply blockQ_o; (exact rfl)) | refine Awp.seq ?_ | refine Awp.skip ?_ | refine Awp.block ?_ | refine reg (fun s => s == 6) ?_ | (apply drwE mixed (fun s => s == 6); (kernel_rfl)) | refine fin ?_ | refine Awp.ret ?_ | refine Awp.exit ?_ | ((first | (apply off; (exact rfl)) | apply condF); (first | (focus (simp only [go_sem, ↓reduceIte, simprocAttr, hSl, h1, h2] <;> rfl)) | exact rfl)))
    all_goals first | contradiction | skip
    exact bodyQ_mk (vs := [nilP, iv 6]) (.inr rfl) (by rw [Try.results13]; first | (simp only [go_sem, ↓reduceIte, simprocAttr]; done) | (simp only [go_sem, ↓reduceIte, simprocAttr]; rfl)) (Vs.refl _ _ _) (.inl ⟨by rw [e]; decide, by rw [e]; rfl, Grow.refl _⟩)
  have hc : newC S = if goodS [] S = true then 0 else 2 := by unfold newC; rw [if_neg (by omega)]
  refine ACalls.of_body Try.func13 rfl (by kernel_rfl) (by rw [Try.ntmps13]; simp) ?_; rw [Try.ntmps13]
  repeat' ((fail_if_success (apply stopR (id := 4))); (fail_if_success (apply stopS (id := 4))); first | refine spD (fun _ => ?_) (fun _ => ?_) | refine spF (fun _ => ?_) (fun _ => ?_) | (apply gT; (exact rfl)) | (apply off; (exact rfl); (exact rfl)) | (apply condT; (exact rfl)) | (apply condF; (exact rfl)) | ((first | (apply stp0; (exact rfl); (exact rfl)) | (apply stpN0; (exact rfl)) | apply gT | apply condT | ((first | apply bodyQ_d0 | apply bodyQ_d1 | apply bodyQ_d2 | apply bodyQ_d3 | apply bodyQ_d4); (exact .inr rfl); (rw [Try.results13]))); (first | (focus (simp only [go_sem, ↓reduceIte, simprocAttr, hSl, h1, h2] <;> rfl)) | exact rfl); (first | (fail_if_success (show okD _ _ _ _ _ _ _ _ _)) | (first | exact okT | exact okN | exact okE rfl)); (first | (fail_if_success (show Bel _ _)) | (focus first | exact .val _ | (simp [oneOf, Bel_iff_tup, Bel_iff_agg, Bel_iff_rsl, Bel_iff_fn, Bel_iff_rptr, Bel_val]; done)))) | refine thenQ_n ?_ | refine thenQ_r ?_ | refine thenQ_e ?_ | refine blockQ_n ?_ | refine blockQ_r ?_ | refine blockQ_e ?_ | (apply blockQ_o; (exact rfl)) | refine Awp.seq ?_ | refine Awp.skip ?_ | refine Awp.block ?_ | refine reg (fun s => s == 6) ?_ | (apply drwE mixed (fun s => s == 6); (kernel_rfl)) | refine fin ?_ | refine Awp.ret ?_ | refine Awp.exit ?_ | ((first | (apply off; (exact rfl)) | apply condF); (first | (focus (simp only [go_sem, ↓reduceIte, simprocAttr, hSl, h1, h2] <;> rfl)) | exact rfl)))
  all_goals first | contradiction | skip
  refine Awp.withT (fun T' => T' 0 = .rsl (sers S) ex ∧ T' 4 = .mp H.length) ⟨by (first | (focus (simp only [go_sem, ↓reduceIte, simprocAttr]; first | done | rfl)) | rfl), by (first | (focus (simp only [go_sem, ↓reduceIte, simprocAttr]; first | done | rfl)) | rfl)⟩ ?_
  rintro T ⟨t0, t4⟩
  refine Awp.mono (Q := fun e T' K => (e = .normal ∧ T' 0 = .rsl (sers S) ex ∧ goodS [] S = true ∧ Grow H K) ∨ (e = .ret ∧ goodS [] S = false ∧ T' 2 = nilP ∧ T' 3 = iv 2 ∧ Grow H K)) ?_ ?_
  · repeat' ((fail_if_success (apply stopR (id := 5))); (fail_if_success (apply stopS (id := 5))); first | refine spD (fun _ => ?_) (fun _ => ?_) | refine spF (fun _ => ?_) (fun _ => ?_) | (apply gT; (exact rfl)) | (apply off; (exact rfl); (exact rfl)) | (apply condT; (exact rfl)) | (apply condF; (exact rfl)) | ((first | (apply stp0; (exact rfl); (exact rfl)) | (apply stpN0; (exact rfl)) | apply gT | apply condT | ((first | apply bodyQ_d0 | apply bodyQ_d1 | apply bodyQ_d2 | apply bodyQ_d3 | apply bodyQ_d4); (exact .inr rfl); (rw [Try.results13]))); (first | (focus (simp only [go_sem, ↓reduceIte, simprocAttr, t0, hSl] <;> rfl)) | exact rfl); (first | (fail_if_success (show okD _ _ _ _ _ _ _ _ _)) | (first | exact okT | exact okN | exact okE rfl)); (first | (fail_if_success (show Bel _ _)) | (focus first | exact .val _ | (simp [oneOf, Bel_iff_tup, Bel_iff_agg, Bel_iff_rsl, Bel_iff_fn, Bel_iff_rptr, Bel_val]; done)))) | refine thenQ_n ?_ | refine thenQ_r ?_ | refine thenQ_e ?_ | refine blockQ_n ?_ | refine blockQ_r ?_ | refine blockQ_e ?_ | (apply blockQ_o; (exact rfl)) | refine Awp.seq ?_ | refine Awp.skip ?_ | refine Awp.block ?_ | refine reg (fun s => s == 6) ?_ | (apply drwE mixed (fun s => s == 6); (kernel_rfl)) | refine fin ?_ | refine Awp.ret ?_ | refine Awp.exit ?_ | ((first | (apply off; (exact rfl)) | apply condF); (first | (focus (simp only [go_sem, ↓reduceIte, simprocAttr, t0, hSl] <;> rfl)) | exact rfl)))
    all_goals first | contradiction | skip
    refine Awp.loop (ι := Nat) (fun i T' K => i ≤ S.length ∧ (T' 0 = .rsl (sers S) ex ∧ T' 4 = .mp H.length ∧ T' 17 = .rsl (sers S) ex ∧ T' 18 = iv S.length ∧ T' 19 = iv i) ∧ Grow H K ∧ K[H.length]? = some (.amap (tabA strA unitA (nmT (S.take i)))) ∧ goodS [] S = goodS (nmT (S.take i)) (S.drop i)) (fun i => S.length - i) 0 ?_ ?_
    · exact ⟨Nat.zero_le _, ⟨by (first | (focus (simp only [go_sem, ↓reduceIte, simprocAttr, t0]; first | done | rfl)) | rfl), by (first | (focus (simp only [go_sem, ↓reduceIte, simprocAttr, t4]; first | done | rfl)) | rfl), by (first | (focus (simp only [go_sem, ↓reduceIte, simprocAttr, t0]; first | done | rfl)) | rfl), by (first | (focus (simp only [go_sem, ↓reduceIte, simprocAttr, hSl]; first | done | rfl)) | rfl), by (first | (focus (simp only [go_sem, ↓reduceIte, simprocAttr]; first | done | rfl)) | rfl)⟩, (Grow.refl _).app _, by rw [List.take_zero]; exact get_new _ _, by rw [List.take_zero]; rfl⟩
    clear t0 t4 T
    rintro i T K ⟨hi, ⟨t0, t4, t17, t18, t19⟩, hG, hnm, hgood⟩
    by_cases hil : i < S.length
    · obtain ⟨s, hs⟩ := nth hil
      have hsc := sers_at hs
      have hw := wsucc hil (show S.length ≤ maxLen by simp only [maxLen]; omega)
      have hil2 : (i : Int) < S.length := Int.ofNat_lt.2 hil
      have hi0 : (0 : Int) ≤ i := by omega
      rw [goodS_drop hs] at hgood
      have hN := fun H => isName_ok H s.name
      have hC := fun H => check27_ok H s.lo s.hi
      repeat' ((fail_if_success (apply stopR (id := 7))); (fail_if_success (apply stopS (id := 7))); first | refine spD (fun _ => ?_) (fun _ => ?_) | refine spF (fun _ => ?_) (fun _ => ?_) | (apply gT; (exact rfl)) | (apply off; (exact rfl); (exact rfl)) | (apply condT; (exact rfl)) | (apply condF; (exact rfl)) | ((first | (apply stp0; (exact rfl); (exact rfl)) | (apply stpN0; (exact rfl)) | apply gT | apply condT | ((first | apply bodyQ_d0 | apply bodyQ_d1 | apply bodyQ_d2 | apply bodyQ_d3 | apply bodyQ_d4); (exact .inr rfl); (rw [Try.results13]))); (first | (focus (simp only [go_sem, ↓reduceIte, simprocAttr, t17, t18, t19, hSl, hsc, hil2, hi0, Int.toNat_natCast] <;> rfl)) | exact rfl); (first | (fail_if_success (show okD _ _ _ _ _ _ _ _ _)) | (first | exact okT | exact okN | exact okE rfl)); (first | (fail_if_success (show Bel _ _)) | (focus first | exact .val _ | (simp [oneOf, Bel_iff_tup, Bel_iff_agg, Bel_iff_rsl, Bel_iff_fn, Bel_iff_rptr, Bel_val]; done)))) | refine thenQ_n ?_ | refine thenQ_r ?_ | refine thenQ_e ?_ | refine blockQ_n ?_ | refine blockQ_r ?_ | refine blockQ_e ?_ | (apply blockQ_o; (exact rfl)) | refine Awp.seq ?_ | refine Awp.skip ?_ | refine Awp.block ?_ | refine reg (fun s => s == 6) ?_ | (apply drwE mixed (fun s => s == 6); (kernel_rfl)) | refine fin ?_ | refine Awp.ret ?_ | refine Awp.exit ?_ | ((first | (apply off; (exact rfl)) | apply condF); (first | (focus (simp only [go_sem, ↓reduceIte, simprocAttr, t17, t18, t19, hSl, hsc, hil2, hi0, Int.toNat_natCast] <;> rfl)) | exact rfl)))
      all_goals first | contradiction | skip
      refine Awp.withT (fun T' => T' 0 = .rsl (sers S) ex ∧ T' 4 = .mp H.length ∧ T' 17 = .rsl (sers S) ex ∧ T' 18 = iv S.length ∧ T' 19 = iv i ∧ T' 6 = .mptr K.length 0 0) ⟨by (first | (focus (simp only [go_sem, ↓reduceIte, simprocAttr, t0]; first | done | rfl)) | rfl), by (first | (focus (simp only [go_sem, ↓reduceIte, simprocAttr, t4]; first | done | rfl)) | rfl), by (first | (focus (simp only [go_sem, ↓reduceIte, simprocAttr, t17]; first | done | rfl)) | rfl), by (first | (focus (simp only [go_sem, ↓reduceIte, simprocAttr, t18]; first | done | rfl)) | rfl), by (first | (focus (simp only [go_sem, ↓reduceIte, simprocAttr, t19]; first | done | rfl)) | rfl), by (first | (focus (simp only [go_sem, ↓reduceIte, simprocAttr]; first | done | rfl)) | rfl)⟩ ?_
      clear t0 t4 t17 t18 t19 T
      rintro T ⟨t0, t4, t17, t18, t19, t6⟩
      have hG1 := hG.app [AObj.cells [[.val (.string s.name), iv s.lo, iv s.hi]] 49]
      have hnm1 := (held hnm).2.1 [AObj.cells [[.val (.string s.name), iv s.lo, iv s.hi]] 49]
      have hx := get_new K (AObj.cells [[.val (.string s.name), iv s.lo, iv s.hi]] 49)
      generalize K ++ [AObj.cells [[.val (.string s.name), iv s.lo, iv s.hi]] 49] = K1 at *
      generalize K.length = xb at *
      clear hnm hG K
      cases hnb : nameB s.name with
      | false =>
        rw [hnb] at hN hgood
        repeat' (first | refine spD (fun _ => ?_) (fun _ => ?_) | refine spF (fun _ => ?_) (fun _ => ?_) | (apply gT; (exact rfl)) | (apply off; (exact rfl); (exact rfl)) | (apply condT; (exact rfl)) | (apply condF; (exact rfl)) | ((first | (apply stp0; (exact rfl); (exact rfl)) | (apply stpN0; (exact rfl)) | apply gT | apply condT | ((first | apply bodyQ_d0 | apply bodyQ_d1 | apply bodyQ_d2 | apply bodyQ_d3 | apply bodyQ_d4); (exact .inr rfl); (rw [Try.results13]))); (first | (focus (simp only [go_sem, ↓reduceIte, simprocAttr, t4, t6, hx] <;> rfl)) | exact rfl); (first | (fail_if_success (show okD _ _ _ _ _ _ _ _ _)) | (first | exact okT | exact okN | exact okE rfl)); (first | (fail_if_success (show Bel _ _)) | (focus first | exact .val _ | (simp [oneOf, Bel_iff_tup, Bel_iff_agg, Bel_iff_rsl, Bel_iff_fn, Bel_iff_rptr, Bel_val]; done)))) | (apply calTo0; (exact rfl); (iterate 2 (simp only [go_sem, ↓reduceIte, simprocAttr, t4, t6, hx]; rfl)); (first | exact hN _); (first | exact okT | exact okN | exact okE rfl)) | refine thenQ_n ?_ | refine thenQ_r ?_ | refine thenQ_e ?_ | refine blockQ_n ?_ | refine blockQ_r ?_ | refine blockQ_e ?_ | (apply blockQ_o; (exact rfl)) | refine Awp.seq ?_ | refine Awp.skip ?_ | refine Awp.block ?_ | refine reg (fun s => s == 6) ?_ | (apply drwE mixed (fun s => s == 6); (kernel_rfl)) | refine fin ?_ | refine Awp.ret ?_ | refine Awp.exit ?_ | ((first | (apply off; (exact rfl)) | apply condF); (first | (focus (simp only [go_sem, ↓reduceIte, simprocAttr, t4, t6, hx] <;> rfl)) | exact rfl)))
        all_goals first | contradiction | skip
        exact .inr ⟨rfl, by rw [hgood]; rfl, by (first | (focus (simp only [go_sem, ↓reduceIte, simprocAttr]; first | done | rfl)) | rfl), by (first | (focus (simp only [go_sem, ↓reduceIte, simprocAttr]; first | done | rfl)) | rfl), hG1⟩
      | true =>
        rw [hnb] at hN hgood
        repeat' (first | refine spD (fun _ => ?_) (fun _ => ?_) | refine spF (fun _ => ?_) (fun _ => ?_) | (apply gT; (exact rfl)) | (apply off; (exact rfl); (exact rfl)) | (apply condT; (exact rfl)) | (apply condF; (exact rfl)) | ((first | (apply stp0; (exact rfl); (exact rfl)) | (apply stpN0; (exact rfl)) | apply gT | apply condT | ((first | apply bodyQ_d0 | apply bodyQ_d1 | apply bodyQ_d2 | apply bodyQ_d3 | apply bodyQ_d4); (exact .inr rfl); (rw [Try.results13]))); (first | (focus (simp only [go_sem, ↓reduceIte, simprocAttr, t4, t6, hx] <;> rfl)) | exact rfl); (first | (fail_if_success (show okD _ _ _ _ _ _ _ _ _)) | (first | exact okT | exact okN | exact okE rfl)); (first | (fail_if_success (show Bel _ _)) | (focus first | exact .val _ | (simp [oneOf, Bel_iff_tup, Bel_iff_agg, Bel_iff_rsl, Bel_iff_fn, Bel_iff_rptr, Bel_val]; done)))) | (apply calTo0; (exact rfl); (iterate 2 (simp only [go_sem, ↓reduceIte, simprocAttr, t4, t6, hx]; rfl)); (first | exact hN _); (first | exact okT | exact okN | exact okE rfl)) | refine thenQ_n ?_ | refine thenQ_r ?_ | refine thenQ_e ?_ | refine blockQ_n ?_ | refine blockQ_r ?_ | refine blockQ_e ?_ | (apply blockQ_o; (exact rfl)) | refine Awp.seq ?_ | refine Awp.skip ?_ | refine Awp.block ?_ | refine reg (fun s => s == 6) ?_ | (apply drwE mixed (fun s => s == 6); (kernel_rfl)) | refine fin ?_ | refine Awp.ret ?_ | refine Awp.exit ?_ | ((first | (apply off; (exact rfl)) | apply condF); (first | (focus (simp only [go_sem, ↓reduceIte, simprocAttr, t4, t6, hx] <;> rfl)) | exact rfl)))
        all_goals first | contradiction | skip
        refine stpOp rfl rfl (OpOK.look (ka := strA) (va := unitA) (L := nmT (S.take i)) (k0 := s.name) (z := .bool false) (b := H.length) Try.underlying72 (by kernel_rfl) (strKey Try.underlying9) (by (first | (focus (simp only [go_sem, ↓reduceIte, simprocAttr, t4]; first | done | rfl)) | rfl)) (by (first | (focus (simp only [go_sem, ↓reduceIte, simprocAttr]; first | done | rfl)) | rfl)) (by unfold entsM; rw [hnm1])) ?_
        rintro v1 K2 ⟨rfl, rfl⟩
        cases hlk : lookK s.name (nmT (S.take i)) with
        | some u =>
          rw [hlk] at hgood
          simp only [lookR]
          repeat' (first | refine spD (fun _ => ?_) (fun _ => ?_) | refine spF (fun _ => ?_) (fun _ => ?_) | (apply gT; (exact rfl)) | (apply off; (exact rfl); (exact rfl)) | (apply condT; (exact rfl)) | (apply condF; (exact rfl)) | ((first | (apply stp0; (exact rfl); (exact rfl)) | (apply stpN0; (exact rfl)) | apply gT | apply condT | ((first | apply bodyQ_d0 | apply bodyQ_d1 | apply bodyQ_d2 | apply bodyQ_d3 | apply bodyQ_d4); (exact .inr rfl); (rw [Try.results13]))); (first | (focus (simp only [go_sem, ↓reduceIte, simprocAttr, t6, hx] <;> rfl)) | exact rfl); (first | (fail_if_success (show okD _ _ _ _ _ _ _ _ _)) | (first | exact okT | exact okN | exact okE rfl)); (first | (fail_if_success (show Bel _ _)) | (focus first | exact .val _ | (simp [oneOf, Bel_iff_tup, Bel_iff_agg, Bel_iff_rsl, Bel_iff_fn, Bel_iff_rptr, Bel_val]; done)))) | refine thenQ_n ?_ | refine thenQ_r ?_ | refine thenQ_e ?_ | refine blockQ_n ?_ | refine blockQ_r ?_ | refine blockQ_e ?_ | (apply blockQ_o; (exact rfl)) | refine Awp.seq ?_ | refine Awp.skip ?_ | refine Awp.block ?_ | refine reg (fun s => s == 6) ?_ | (apply drwE mixed (fun s => s == 6); (kernel_rfl)) | refine fin ?_ | refine Awp.ret ?_ | refine Awp.exit ?_ | ((first | (apply off; (exact rfl)) | apply condF); (first | (focus (simp only [go_sem, ↓reduceIte, simprocAttr, t6, hx] <;> rfl)) | exact rfl)))
          all_goals first | contradiction | skip
          exact .inr ⟨rfl, by rw [hgood]; rfl, by (first | (focus (simp only [go_sem, ↓reduceIte, simprocAttr]; first | done | rfl)) | rfl), by (first | (focus (simp only [go_sem, ↓reduceIte, simprocAttr]; first | done | rfl)) | rfl), hG1⟩
        | none =>
          rw [hlk] at hgood
          simp only [lookR]
          cases hsb : spanB s.lo s.hi with
          | false =>
            have e4 : spanC s.lo s.hi = 2 := by unfold spanC; rw [hsb]; rfl
            rw [e4] at hC
            rw [hsb] at hgood
            repeat' (first | refine spD (fun _ => ?_) (fun _ => ?_) | refine spF (fun _ => ?_) (fun _ => ?_) | (apply gT; (exact rfl)) | (apply off; (exact rfl); (exact rfl)) | (apply condT; (exact rfl)) | (apply condF; (exact rfl)) | ((first | (apply stp0; (exact rfl); (exact rfl)) | (apply stpN0; (exact rfl)) | apply gT | apply condT | ((first | apply bodyQ_d0 | apply bodyQ_d1 | apply bodyQ_d2 | apply bodyQ_d3 | apply bodyQ_d4); (exact .inr rfl); (rw [Try.results13]))); (first | (focus (simp only [go_sem, ↓reduceIte, simprocAttr, t6, hx] <;> rfl)) | exact rfl); (first | (fail_if_success (show okD _ _ _ _ _ _ _ _ _)) | (first | exact okT | exact okN | exact okE rfl)); (first | (fail_if_success (show Bel _ _)) | (focus first | exact .val _ | (simp [oneOf, Bel_iff_tup, Bel_iff_agg, Bel_iff_rsl, Bel_iff_fn, Bel_iff_rptr, Bel_val]; done)))) | (apply calTo0; (exact rfl); (iterate 2 (simp only [go_sem, ↓reduceIte, simprocAttr, t6, hx]; rfl)); (first | exact hC _); (first | exact okT | exact okN | exact okE rfl)) | refine thenQ_n ?_ | refine thenQ_r ?_ | refine thenQ_e ?_ | refine blockQ_n ?_ | refine blockQ_r ?_ | refine blockQ_e ?_ | (apply blockQ_o; (exact rfl)) | refine Awp.seq ?_ | refine Awp.skip ?_ | refine Awp.block ?_ | refine reg (fun s => s == 6) ?_ | (apply drwE mixed (fun s => s == 6); (kernel_rfl)) | refine fin ?_ | refine Awp.ret ?_ | refine Awp.exit ?_ | ((first | (apply off; (exact rfl)) | apply condF); (first | (focus (simp only [go_sem, ↓reduceIte, simprocAttr, t6, hx] <;> rfl)) | exact rfl)))
            all_goals first | contradiction | skip
            exact .inr ⟨rfl, by rw [hgood]; rfl, by (first | (focus (simp only [go_sem, ↓reduceIte, simprocAttr]; first | done | rfl)) | rfl), by (first | (focus (simp only [go_sem, ↓reduceIte, simprocAttr]; first | done | rfl)) | rfl), hG1⟩
          | true =>
            have e4 : spanC s.lo s.hi = 0 := by unfold spanC; rw [hsb]; rfl
            rw [e4] at hC
            rw [hsb] at hgood
            repeat' (first | refine spD (fun _ => ?_) (fun _ => ?_) | refine spF (fun _ => ?_) (fun _ => ?_) | (apply gT; (exact rfl)) | (apply off; (exact rfl); (exact rfl)) | (apply condT; (exact rfl)) | (apply condF; (exact rfl)) | ((first | (apply stp0; (exact rfl); (exact rfl)) | (apply stpN0; (exact rfl)) | apply gT | apply condT | ((first | apply bodyQ_d0 | apply bodyQ_d1 | apply bodyQ_d2 | apply bodyQ_d3 | apply bodyQ_d4); (exact .inr rfl); (rw [Try.results13]))); (first | (focus (simp only [go_sem, ↓reduceIte, simprocAttr, t4, t6, hx] <;> rfl)) | exact rfl); (first | (fail_if_success (show okD _ _ _ _ _ _ _ _ _)) | (first | exact okT | exact okN | exact okE rfl)); (first | (fail_if_success (show Bel _ _)) | (focus first | exact .val _ | (simp [oneOf, Bel_iff_tup, Bel_iff_agg, Bel_iff_rsl, Bel_iff_fn, Bel_iff_rptr, Bel_val]; done)))) | (apply calTo0; (exact rfl); (iterate 2 (simp only [go_sem, ↓reduceIte, simprocAttr, t4, t6, hx]; rfl)); (first | exact hC _); (first | exact okT | exact okN | exact okE rfl)) | refine thenQ_n ?_ | refine thenQ_r ?_ | refine thenQ_e ?_ | refine blockQ_n ?_ | refine blockQ_r ?_ | refine blockQ_e ?_ | (apply blockQ_o; (exact rfl)) | refine Awp.seq ?_ | refine Awp.skip ?_ | refine Awp.block ?_ | refine reg (fun s => s == 6) ?_ | (apply drwE mixed (fun s => s == 6); (kernel_rfl)) | refine fin ?_ | refine Awp.ret ?_ | refine Awp.exit ?_ | ((first | (apply off; (exact rfl)) | apply condF); (first | (focus (simp only [go_sem, ↓reduceIte, simprocAttr, t4, t6, hx] <;> rfl)) | exact rfl)))
            all_goals first | contradiction | skip
            refine stpOpN rfl (OpOK.update (ka := strA) (va := unitA) (L := nmT (S.take i)) (k0 := s.name) (e0 := ()) (b := H.length) Try.underlying72 (strKey Try.underlying9) (by (first | (focus (simp only [go_sem, ↓reduceIte, simprocAttr, t4]; first | done | rfl)) | rfl)) (by (first | (focus (simp only [go_sem, ↓reduceIte, simprocAttr]; first | done | rfl)) | rfl)) rfl hnm1) ?_
            rintro v1 K2 ⟨rfl, rfl⟩
            rw [updK_none hlk, ← nmT_succ hs]
            rw [← nmT_succ hs] at hgood
            repeat' (first | refine spD (fun _ => ?_) (fun _ => ?_) | refine spF (fun _ => ?_) (fun _ => ?_) | (apply gT; (exact rfl)) | (apply off; (exact rfl); (exact rfl)) | (apply condT; (exact rfl)) | (apply condF; (exact rfl)) | ((first | (apply stp0; (exact rfl); (exact rfl)) | (apply stpN0; (exact rfl)) | apply gT | apply condT | ((first | apply bodyQ_d0 | apply bodyQ_d1 | apply bodyQ_d2 | apply bodyQ_d3 | apply bodyQ_d4); (exact .inr rfl); (rw [Try.results13]))); (first | (focus (simp only [go_sem, ↓reduceIte, simprocAttr, t17, t18, t19, hw] <;> rfl)) | exact rfl); (first | (fail_if_success (show okD _ _ _ _ _ _ _ _ _)) | (first | exact okT | exact okN | exact okE rfl)); (first | (fail_if_success (show Bel _ _)) | (focus first | exact .val _ | (simp [oneOf, Bel_iff_tup, Bel_iff_agg, Bel_iff_rsl, Bel_iff_fn, Bel_iff_rptr, Bel_val]; done)))) | refine thenQ_n ?_ | refine thenQ_r ?_ | refine thenQ_e ?_ | refine blockQ_n ?_ | refine blockQ_r ?_ | refine blockQ_e ?_ | (apply blockQ_o; (exact rfl)) | refine Awp.seq ?_ | refine Awp.skip ?_ | refine Awp.block ?_ | refine reg (fun s => s == 6) ?_ | (apply drwE mixed (fun s => s == 6); (kernel_rfl)) | refine fin ?_ | refine Awp.ret ?_ | refine Awp.exit ?_ | ((first | (apply off; (exact rfl)) | apply condF); (first | (focus (simp only [go_sem, ↓reduceIte, simprocAttr, t17, t18, t19, hw] <;> rfl)) | exact rfl)))
            all_goals first | contradiction | skip
            exact ⟨i + 1, ⟨hil, ⟨by (first | (focus (simp only [go_sem, ↓reduceIte, simprocAttr, t0]; first | done | rfl)) | rfl), by (first | (focus (simp only [go_sem, ↓reduceIte, simprocAttr, t4]; first | done | rfl)) | rfl), by (first | (focus (simp only [go_sem, ↓reduceIte, simprocAttr, t17]; first | done | rfl)) | rfl), by (first | (focus (simp only [go_sem, ↓reduceIte, simprocAttr, t18]; first | done | rfl)) | rfl), by (first | (focus (simp only [go_sem, ↓reduceIte, simprocAttr, hw]; first | done | rfl)) | rfl)⟩, hG1.set (Nat.le_refl _) _, (heldS hnm1).1 _, by rw [hgood]; simp⟩, Nat.sub_lt_sub_left hil (Nat.lt_succ_self i)⟩
    · have e : i = S.length := by omega
      subst e
      repeat' (first | refine spD (fun _ => ?_) (fun _ => ?_) | refine spF (fun _ => ?_) (fun _ => ?_) | (apply gT; (exact rfl)) | (apply off; (exact rfl); (exact rfl)) | (apply condT; (exact rfl)) | (apply condF; (exact rfl)) | ((first | (apply stp0; (exact rfl); (exact rfl)) | (apply stpN0; (exact rfl)) | apply gT | apply condT | ((first | apply bodyQ_d0 | apply bodyQ_d1 | apply bodyQ_d2 | apply bodyQ_d3 | apply bodyQ_d4); (exact .inr rfl); (rw [Try.results13]))); (first | (focus (simp only [go_sem, ↓reduceIte, simprocAttr, Int.lt_irrefl, t18, t19] <;> rfl)) | exact rfl); (first | (fail_if_success (show okD _ _ _ _ _ _ _ _ _)) | (first | exact okT | exact okN | exact okE rfl)); (first | (fail_if_success (show Bel _ _)) | (focus first | exact .val _ | (simp [oneOf, Bel_iff_tup, Bel_iff_agg, Bel_iff_rsl, Bel_iff_fn, Bel_iff_rptr, Bel_val]; done)))) | refine thenQ_n ?_ | refine thenQ_r ?_ | refine thenQ_e ?_ | refine blockQ_n ?_ | refine blockQ_r ?_ | refine blockQ_e ?_ | (apply blockQ_o; (exact rfl)) | refine Awp.seq ?_ | refine Awp.skip ?_ | refine Awp.block ?_ | refine reg (fun s => s == 6) ?_ | (apply drwE mixed (fun s => s == 6); (kernel_rfl)) | refine fin ?_ | refine Awp.ret ?_ | refine Awp.exit ?_ | ((first | (apply off; (exact rfl)) | apply condF); (first | (focus (simp only [go_sem, ↓reduceIte, simprocAttr, Int.lt_irrefl, t18, t19] <;> rfl)) | exact rfl)))
      all_goals first | contradiction | skip
      exact .inl ⟨rfl, by (first | (focus (simp only [go_sem, ↓reduceIte, simprocAttr, t0]; first | done | rfl)) | rfl), by rw [hgood, List.drop_length]; rfl, hG⟩
  clear t0 t4 T
  rintro e T K (⟨rfl, t0, hgood, hG⟩ | ⟨rfl, hgood, t2, t3, hG⟩)
  · refine thenQ_n ?_
    have e0 : newC S = 0 := by rw [hc, hgood]; rfl
    have hmk : makeA Try.prog 22 (S.length : Int) = some (List.replicate S.length [.val (.string ⟨#[]⟩), .val (.int .i64 0), .val (.int .i64 0)], 49) := by
      rw [mk22, if_pos ⟨by omega, by omega, by omega⟩, Int.toNat_natCast]
    repeat' ((fail_if_success (apply stopR (id := 12))); (fail_if_success (apply stopS (id := 12))); first | refine spD (fun _ => ?_) (fun _ => ?_) | refine spF (fun _ => ?_) (fun _ => ?_) | (apply gT; (exact rfl)) | (apply off; (exact rfl); (exact rfl)) | (apply condT; (exact rfl)) | (apply condF; (exact rfl)) | ((first | (apply stp0; (exact rfl); (exact rfl)) | (apply stpN0; (exact rfl)) | apply gT | apply condT | ((first | apply bodyQ_d0 | apply bodyQ_d1 | apply bodyQ_d2 | apply bodyQ_d3 | apply bodyQ_d4); (exact .inr rfl); (rw [Try.results13]))); (first | (focus (simp only [go_sem, ↓reduceIte, simprocAttr, t0, hSl, hmk] <;> rfl)) | exact rfl); (first | (fail_if_success (show okD _ _ _ _ _ _ _ _ _)) | (first | exact okT | exact okN | exact okE rfl)); (first | (fail_if_success (show Bel _ _)) | (focus first | exact .val _ | (simp [oneOf, Bel_iff_tup, Bel_iff_agg, Bel_iff_rsl, Bel_iff_fn, Bel_iff_rptr, Bel_val]; done)))) | refine thenQ_n ?_ | refine thenQ_r ?_ | refine thenQ_e ?_ | refine blockQ_n ?_ | refine blockQ_r ?_ | refine blockQ_e ?_ | (apply blockQ_o; (exact rfl)) | refine Awp.seq ?_ | refine Awp.skip ?_ | refine Awp.block ?_ | refine reg (fun s => s == 6 || s == 48) ?_ | (apply drwE mixed (fun s => s == 6 || s == 48); (kernel_rfl)) | refine fin ?_ | refine Awp.ret ?_ | refine Awp.exit ?_ | ((first | (apply off; (exact rfl)) | apply condF); (first | (focus (simp only [go_sem, ↓reduceIte, simprocAttr, t0, hSl, hmk] <;> rfl)) | exact rfl)))
    all_goals first | contradiction | skip
    refine Awp.withT (fun T' => T' 0 = .rsl (sers S) ex ∧ T' 7 = .mptr (K.length + 2) 0 0) ⟨by (first | (focus (simp only [go_sem, ↓reduceIte, simprocAttr, t0]; first | done | rfl)) | rfl), by (first | (focus (simp only [go_sem, ↓reduceIte, simprocAttr, List.length_append, List.length_singleton, Nat.add_assoc]; first | done | rfl)) | rfl)⟩ ?_
    clear t0 T
    rintro T ⟨t0, t7⟩
    have g0 : ∀ a b c : AObj, (K ++ [a] ++ [b] ++ [c])[K.length + 2]? = some c := fun a b c => by
      rw [show K.length + 2 = (K ++ [a] ++ [b]).length by simp]; exact get_new _ _
    have g1 : ∀ a b c : AObj, (K ++ [a] ++ [b] ++ [c])[K.length]? = some a := fun a b c => by simp
    have g2 : ∀ a b c : AObj, (K ++ [a] ++ [b] ++ [c])[K.length + 1]? = some b := fun a b c => by simp
    have hs3 : ∀ e ∈ sers S, e.length = 3 := fun e he => by
      obtain ⟨r, _, rfl⟩ := List.mem_map.1 he
      rfl
    have hsc : ∀ e ∈ sers S, e.all AV.isCell = true := fun e he => by
      obtain ⟨r, _, rfl⟩ := List.mem_map.1 he
      rfl
    refine Awp.seq (Awp.mono (Q := fun e T' K' => e = .normal ∧ T' 7 = .mptr (K.length + 2) 0 0 ∧ K' = K ++ [.cells (sers S) 49] ++ [.amap []] ++ [.cells [[.msl K.length 0 S.length, .mp (K.length + 1)]] 58]) ?_ ?_)
    · repeat' (first | refine spD (fun _ => ?_) (fun _ => ?_) | refine spF (fun _ => ?_) (fun _ => ?_) | (apply gT; (exact rfl)) | (apply off; (exact rfl); (exact rfl)) | (apply condT; (exact rfl)) | (apply condF; (exact rfl)) | ((first | (apply stp0; (exact rfl); (exact rfl)) | (apply stpN0; (exact rfl)) | apply gT | apply condT | ((first | apply bodyQ_d0 | apply bodyQ_d1 | apply bodyQ_d2 | apply bodyQ_d3 | apply bodyQ_d4); (exact .inr rfl); (rw [Try.results13]))); (first | (focus (simp only [go_sem, ↓reduceIte, simprocAttr, t0, t7, g0] <;> rfl)) | exact rfl); (first | (fail_if_success (show okD _ _ _ _ _ _ _ _ _)) | (first | exact okT | exact okN | exact okE rfl)); (first | (fail_if_success (show Bel _ _)) | (focus first | exact .val _ | (simp [oneOf, Bel_iff_tup, Bel_iff_agg, Bel_iff_rsl, Bel_iff_fn, Bel_iff_rptr, Bel_val]; done)))) | refine thenQ_n ?_ | refine thenQ_r ?_ | refine thenQ_e ?_ | refine blockQ_n ?_ | refine blockQ_r ?_ | refine blockQ_e ?_ | (apply blockQ_o; (exact rfl)) | refine Awp.seq ?_ | refine Awp.skip ?_ | refine Awp.block ?_ | refine reg (fun s => s == 6) ?_ | (apply drwE mixed (fun s => s == 6); (kernel_rfl)) | refine fin ?_ | refine Awp.ret ?_ | refine Awp.exit ?_ | ((first | (apply off; (exact rfl)) | apply condF); (first | (focus (simp only [go_sem, ↓reduceIte, simprocAttr, t0, t7, g0] <;> rfl)) | exact rfl)))
      all_goals first | contradiction | skip
      obtain ⟨inf, hi, _, hz, _⟩ := infoA_some inf49
      refine stpOp rfl rfl (OpOK.copyAll (b := K.length) (es := List.replicate S.length [.val (.string ⟨#[]⟩), .val (.int .i64 0), .val (.int .i64 0)]) (xs := sers S) (ex := ex) Try.underlying22 hi (by rw [hz]; decide) (by rw [List.length_replicate]; (first | (focus (simp only [go_sem, ↓reduceIte, simprocAttr]; first | done | rfl)) | rfl)) (g1 _ _ _) (by rw [hz]; simp) (by rw [List.length_replicate]; omega) (by (first | (focus (simp only [go_sem, ↓reduceIte, simprocAttr, t0]; first | done | rfl)) | rfl)) (by rw [List.length_replicate, hSl]) (by rw [hz, List.all_eq_true]; intro e he; simpa using hs3 e he) (by rw [List.all_eq_true]; exact hsc)) ?_
      rintro v1 K2 ⟨rfl, rfl⟩
      repeat' (first | refine spD (fun _ => ?_) (fun _ => ?_) | refine spF (fun _ => ?_) (fun _ => ?_) | (apply gT; (exact rfl)) | (apply off; (exact rfl); (exact rfl)) | (apply condT; (exact rfl)) | (apply condF; (exact rfl)) | ((first | (apply stp0; (exact rfl); (exact rfl)) | (apply stpN0; (exact rfl)) | apply gT | apply condT | ((first | apply bodyQ_d0 | apply bodyQ_d1 | apply bodyQ_d2 | apply bodyQ_d3 | apply bodyQ_d4); (exact .inr rfl); (rw [Try.results13]))); (first | (focus (simp only [go_sem, ↓reduceIte, simprocAttr] <;> rfl)) | exact rfl); (first | (fail_if_success (show okD _ _ _ _ _ _ _ _ _)) | (first | exact okT | exact okN | exact okE rfl)); (first | (fail_if_success (show Bel _ _)) | (focus first | exact .val _ | (simp [oneOf, Bel_iff_tup, Bel_iff_agg, Bel_iff_rsl, Bel_iff_fn, Bel_iff_rptr, Bel_val]; done)))) | refine thenQ_n ?_ | refine thenQ_r ?_ | refine thenQ_e ?_ | refine blockQ_n ?_ | refine blockQ_r ?_ | refine blockQ_e ?_ | (apply blockQ_o; (exact rfl)) | refine Awp.seq ?_ | refine Awp.skip ?_ | refine Awp.block ?_ | refine reg (fun s => s == 6) ?_ | (apply drwE mixed (fun s => s == 6); (kernel_rfl)) | refine fin ?_ | refine Awp.ret ?_ | refine Awp.exit ?_ | ((first | (apply off; (exact rfl)) | apply condF); (first | (focus (simp only [go_sem, ↓reduceIte, simprocAttr] <;> rfl)) | exact rfl)))
      all_goals first | contradiction | skip
      refine ⟨rfl, by (first | (focus (simp only [go_sem, ↓reduceIte, simprocAttr, t7]; first | done | rfl)) | rfl), ?_⟩
      simp
    clear t0 t7 T
    rintro e T K' ⟨rfl, t7, rfl⟩
    refine thenQ_n ?_
    refine Awp.frzCell (s := K.length + 2) (b := K.length) (len := S.length) (k := 0) (es := sers S) (e0 := [.msl K.length 0 S.length, .mp (K.length + 1)]) (t := 58) (t' := 49) (by omega) (g0 _ _ _) rfl (g1 _ _ _) (by rw [hSl]; exact Nat.le_refl _) ?_
    rw [List.take_of_length_le (by rw [hSl]; exact Nat.le_refl _)]
    repeat' (first | refine spD (fun _ => ?_) (fun _ => ?_) | refine spF (fun _ => ?_) (fun _ => ?_) | (apply gT; (exact rfl)) | (apply off; (exact rfl); (exact rfl)) | (apply condT; (exact rfl)) | (apply condF; (exact rfl)) | ((first | (apply stp0; (exact rfl); (exact rfl)) | (apply stpN0; (exact rfl)) | apply gT | apply condT); (first | (focus (simp only [go_sem, ↓reduceIte, simprocAttr, t7] <;> rfl)) | exact rfl); (first | (fail_if_success (show okD _ _ _ _ _ _ _ _ _)) | (first | exact okT | exact okN | exact okE rfl))) | refine thenQ_n ?_ | refine thenQ_r ?_ | refine thenQ_e ?_ | refine blockQ_n ?_ | refine blockQ_r ?_ | refine blockQ_e ?_ | (apply blockQ_o; (exact rfl)) | refine Awp.seq ?_ | refine Awp.skip ?_ | refine Awp.block ?_ | refine reg (fun s => s == 6) ?_ | (apply drwE mixed (fun s => s == 6); (kernel_rfl)) | refine fin ?_ | refine Awp.ret ?_ | refine Awp.exit ?_ | ((first | (apply off; (exact rfl)) | apply condF); (first | (focus (simp only [go_sem, ↓reduceIte, simprocAttr, t7] <;> rfl)) | exact rfl)))
    all_goals first | contradiction | skip
    refine bodyQ_mk (vs := [.mptr (K.length + 2) 0 0, iv 0]) (.inr rfl) (by rw [Try.results13]; first | (simp only [go_sem, ↓reduceIte, simprocAttr, t7]; done) | (simp only [go_sem, ↓reduceIte, simprocAttr, t7]; rfl)) (Vs.refl _ _ _) (.inr ⟨e0, K.length + 2, K.length + 1, rfl, ?_, ?_, ?_, ?_, ?_⟩)
    · have := hG.len; omega
    · have := hG.len; omega
    · exact List.getElem?_set_self (by simp)
    · rw [List.getElem?_set_ne (by omega)]; exact g2 _ _ _
    · exact (((hG.app _).app _).app _).set (by have := hG.len; omega) _
  · have e2 : newC S = 2 := by rw [hc, hgood]; rfl
    repeat' (first | refine spD (fun _ => ?_) (fun _ => ?_) | refine spF (fun _ => ?_) (fun _ => ?_) | (apply gT; (exact rfl)) | (apply off; (exact rfl); (exact rfl)) | (apply condT; (exact rfl)) | (apply condF; (exact rfl)) | ((first | (apply stp0; (exact rfl); (exact rfl)) | (apply stpN0; (exact rfl)) | apply gT | apply condT); (first | (focus (simp only [go_sem, ↓reduceIte, simprocAttr] <;> rfl)) | exact rfl); (first | (fail_if_success (show okD _ _ _ _ _ _ _ _ _)) | (first | exact okT | exact okN | exact okE rfl))) | refine thenQ_n ?_ | refine thenQ_r ?_ | refine thenQ_e ?_ | refine blockQ_n ?_ | refine blockQ_r ?_ | refine blockQ_e ?_ | (apply blockQ_o; (exact rfl)) | refine Awp.seq ?_ | refine Awp.skip ?_ | refine Awp.block ?_ | refine reg (fun s => s == 6) ?_ | (apply drwE mixed (fun s => s == 6); (kernel_rfl)) | refine fin ?_ | refine Awp.ret ?_ | refine Awp.exit ?_ | ((first | (apply off; (exact rfl)) | apply condF); (first | (focus (simp only [go_sem, ↓reduceIte, simprocAttr] <;> rfl)) | exact rfl)))
    all_goals first | contradiction | skip
    exact bodyQ_mk (vs := [nilP, iv 2]) (.inr rfl) (by rw [Try.results13]; first | (simp only [go_sem, ↓reduceIte, simprocAttr, t2, t3]; done) | (simp only [go_sem, ↓reduceIte, simprocAttr, t2, t3]; rfl)) (Vs.refl _ _ _) (.inl ⟨by rw [e2]; decide, by rw [e2]; rfl, hG⟩)

end Go.Proofs.Ytdmgljlabigljaa.Ab
