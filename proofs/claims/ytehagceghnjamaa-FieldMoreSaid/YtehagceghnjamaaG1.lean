/- Fields: what an observation promises. -/
import Derived.Test.YtehagceghnjamaaG0
namespace Go.Proofs.Ytehagceghnjamaa.Ab
open Go Go.RowKit Go.Proofs
set_option linter.unusedSimpArgs false
set_option linter.unusedVariables false
attribute [local irreducible] Awp wpO thenQ blockQ bodyQ ACalls stepA

/-- what one spot adds -/
def promAt (f : Fd) (l : List Seen) (x : Spot) (e : Int) (i : Nat) : Int := min ((setOf f l (f.at i)).hi - (setOf f l (f.at i)).lo) (e + 2 * f.away x (f.at i))
/-- the sum over the first n spots -/
def prom (f : Fd) (l : List Seen) (x : Spot) (e : Int) : Nat → Int
  | 0 => 0
  | n + 1 => prom f l x e n + promAt f l x e n

theorem setOf_in {f : Fd} (hf : f.ok) {x : Spot} (hx : f.has x) {l : List Seen} (hl : f.seenOk l) :
    -16777216 ≤ (setOf f l x).lo ∧ (setOf f l x).lo ≤ 1073741824 ∧ -1073741824 ≤ (setOf f l x).hi ∧ (setOf f l x).hi ≤ 16777216 := by
  have := setN_in hf hx hl l.length
  rwa [setN_end (Nat.le_refl _)] at this

theorem promAt_in {f : Fd} (hf : f.ok) {l : List Seen} (hl : f.seenOk l) {x : Spot} (hx : f.has x) {e : Int} (h0 : 0 ≤ e) (h1 : e ≤ 1073741824) {i : Nat} (hi : i < f.n) :
    -4294967296 ≤ promAt f l x e i ∧ promAt f l x e i ≤ 4294967296 := by
  have h2 := setOf_in hf (Fd.at_has hf hi) hl
  have h3 := Fd.away_in hf hx (Fd.at_has hf hi)
  unfold promAt
  omega

theorem prom_in {f : Fd} (hf : f.ok) {l : List Seen} (hl : f.seenOk l) {x : Spot} (hx : f.has x) {e : Int} (h0 : 0 ≤ e) (h1 : e ≤ 1073741824) : ∀ n, n ≤ f.n → -(4294967296 * n) ≤ prom f l x e n ∧ prom f l x e n ≤ 4294967296 * n
  | 0, _ => by simp [prom]
  | n + 1, hn => by
    have ih := prom_in hf hl hx h0 h1 n (by omega)
    have := promAt_in hf hl hx h0 h1 (i := n) (by omega)
    unfold prom
    omega

theorem get_snd (L : Hp) (x y : AObj) (Z : Hp) : (L ++ [x] ++ [y] ++ Z)[L.length + 1]? = some y := by simp
theorem get_snd0 (L : Hp) (x y : AObj) : (L ++ [x] ++ [y])[L.length + 1]? = some y := by simp
theorem get_trd (L : Hp) (x y z : AObj) : (L ++ [x] ++ [y] ++ [z])[L.length + 2]? = some z := by simp
theorem set_snd0 (L : Hp) (x y c : AObj) : (L ++ [x] ++ [y]).set (L.length + 1) c = L ++ [x] ++ [c] := by simp
theorem set_snd (L : Hp) (x y c : AObj) (Z : Hp) : (L ++ [x] ++ [y] ++ Z).set (L.length + 1) c = L ++ [x] ++ [c] ++ Z := by simp

theorem promise_ok (H : Hp) (s : Nat) (f : Fd) (hf : f.ok) (l : List Seen) (hl : f.seenOk l) (seen : AV) (ex : Bool) (hs : H[s]? = some (sea f seen (.rsl ((setsUp f l f.n).map Sp.cs) ex))) (x : Spot) (hx : f.has x) (e : Int) (h0 : 0 ≤ e) (h1 : e ≤ 1073741824) :
    CallsTo Try.prog 55 [.mptr s 0 0, .agg x.cs, iv e] H (iv (prom f l x e f.n)) H := by
  have hS := held hs
  have hS' := hS
  simp only [sea, Fd.cs, List.cons_append, List.nil_append] at hS'
  refine ACalls.of_body Try.func55 rfl (by kernel_rfl) (by rw [Try.ntmps55]; simp) ?_; rw [Try.ntmps55]
  repeat' (first | refine spD (fun _ => ?_) (fun _ => ?_) | refine spF (fun _ => ?_) (fun _ => ?_) | ((first | (apply stp0; (exact rfl); (exact rfl)) | (apply stpN0; (exact rfl))); (simp only [go_sem, ↓reduceIte, Nat.reduceEqDiff, Nat.reduceBEq, Nat.reduceAdd, Nat.reduceLeDiff, Nat.reduceMul, Nat.reduceLT, Int.reduceToNat, reduceCtorEq, Int.reduceBEq, Int.reduceBNe, Int.reduceLT, Int.reduceLE, Int.reduceGT, Int.reduceGE, hS', Spot.cs]; rfl); (first | exact okT | exact okN | exact okE rfl)) | (apply gT; (exact rfl)) | (apply off; (exact rfl); (exact rfl)) | (apply calTo0; (exact rfl); (iterate 2 (simp only [go_sem, ↓reduceIte, Nat.reduceEqDiff, Nat.reduceBEq, Nat.reduceAdd, Nat.reduceLeDiff, Nat.reduceMul, Nat.reduceLT, Int.reduceToNat, reduceCtorEq, Int.reduceBEq, Int.reduceBNe, Int.reduceLT, Int.reduceLE, Int.reduceGT, Int.reduceGE, hS', Spot.cs]; rfl)); (first | exact spots_ok _ s); (first | exact okT | exact okN | exact okE rfl)) | refine thenQ_n ?_ | refine thenQ_r ?_ | refine thenQ_e ?_ | refine blockQ_n ?_ | refine blockQ_r ?_ | refine blockQ_e ?_ | (apply blockQ_o; (exact rfl)) | refine Awp.seq ?_ | refine Awp.skip ?_ | refine Awp.block ?_ | refine reg (fun s => s == 7 || s == 9) ?_ | (apply drwE mixed (fun s => s == 7 || s == 9); (kernel_rfl)) | refine fin ?_ | (apply condT; (exact rfl)) | (apply condF; (exact rfl)) | refine Awp.ret ?_ | refine Awp.exit ?_ | ((first | apply bodyQ_d0 | apply bodyQ_d1 | apply bodyQ_d2 | apply bodyQ_d3 | apply bodyQ_d4); (exact .inr rfl); (rw [Try.results55]; simp only [go_sem, ↓reduceIte, Nat.reduceEqDiff, Nat.reduceBEq, Nat.reduceAdd, Nat.reduceLeDiff, Nat.reduceMul, Nat.reduceLT, Int.reduceToNat, reduceCtorEq, Int.reduceBEq, Int.reduceBNe, Int.reduceLT, Int.reduceLE, Int.reduceGT, Int.reduceGE, hS', Spot.cs]; rfl); (first | (show Bel _ _; (focus first | exact .val _ | (simp [oneOf, Bel_iff_tup, Bel_iff_agg, Bel_iff_rsl, Bel_val]; done))) | (fail_if_success (show Bel _ _)))) | ((first | apply gT | apply condT); (focus (simp only [go_sem, ↓reduceIte, Nat.reduceEqDiff, Nat.reduceBEq, Nat.reduceAdd, Nat.reduceLeDiff, Nat.reduceMul, Nat.reduceLT, Int.reduceToNat, reduceCtorEq, Int.reduceBEq, Int.reduceBNe, Int.reduceLT, Int.reduceLE, Int.reduceGT, Int.reduceGE, hS', Spot.cs] <;> rfl))) | ((first | (apply off; (exact rfl)) | apply condF); (focus (simp only [go_sem, ↓reduceIte, Nat.reduceEqDiff, Nat.reduceBEq, Nat.reduceAdd, Nat.reduceLeDiff, Nat.reduceMul, Nat.reduceLT, Int.reduceToNat, reduceCtorEq, Int.reduceBEq, Int.reduceBNe, Int.reduceLT, Int.reduceLE, Int.reduceGT, Int.reduceGE, hS', Spot.cs] <;> rfl))))
  refine Awp.withT (fun T' => T' 3 = .rptr [.mptr s 0 0] 0 ∧ T' 4 = .rptr [iv x.m, iv x.c] 0 ∧ T' 5 = .rptr [iv e] 0 ∧ T' 7 = .mptr H.length 0 0 ∧ T' 11 = .fn (.func 88) [.rptr [.mptr s 0 0] 0]) ⟨?_, ?_, ?_, ?_, ?_⟩ ?_
  · simp only [go_sem, ↓reduceIte, Nat.reduceEqDiff, Nat.reduceBEq, Nat.reduceAdd, Nat.reduceLeDiff, Nat.reduceMul, Nat.reduceLT, Int.reduceToNat, reduceCtorEq, Int.reduceBEq, Int.reduceBNe, Int.reduceLT, Int.reduceLE, Int.reduceGT, Int.reduceGE]
  · simp only [go_sem, ↓reduceIte, Nat.reduceEqDiff, Nat.reduceBEq, Nat.reduceAdd, Nat.reduceLeDiff, Nat.reduceMul, Nat.reduceLT, Int.reduceToNat, reduceCtorEq, Int.reduceBEq, Int.reduceBNe, Int.reduceLT, Int.reduceLE, Int.reduceGT, Int.reduceGE]
  · simp only [go_sem, ↓reduceIte, Nat.reduceEqDiff, Nat.reduceBEq, Nat.reduceAdd, Nat.reduceLeDiff, Nat.reduceMul, Nat.reduceLT, Int.reduceToNat, reduceCtorEq, Int.reduceBEq, Int.reduceBNe, Int.reduceLT, Int.reduceLE, Int.reduceGT, Int.reduceGE]
  · simp only [go_sem, ↓reduceIte, Nat.reduceEqDiff, Nat.reduceBEq, Nat.reduceAdd, Nat.reduceLeDiff, Nat.reduceMul, Nat.reduceLT, Int.reduceToNat, reduceCtorEq, Int.reduceBEq, Int.reduceBNe, Int.reduceLT, Int.reduceLE, Int.reduceGT, Int.reduceGE]
  · simp only [go_sem, ↓reduceIte, Nat.reduceEqDiff, Nat.reduceBEq, Nat.reduceAdd, Nat.reduceLeDiff, Nat.reduceMul, Nat.reduceLT, Int.reduceToNat, reduceCtorEq, Int.reduceBEq, Int.reduceBNe, Int.reduceLT, Int.reduceLE, Int.reduceGT, Int.reduceGE]
  rintro T ⟨h3, h4, h5, h7, h11⟩
  have hb : (H ++ [AObj.cells [[iv 0]] 2]).length = H.length + 1 := by simp
  refine overSpots f hf s h11 (fun lp n H' => H' = H ++ [AObj.cells [[iv (prom f l x e n)]] 2] ++ [lp]) (fun _ _ => False) ?_ ?_ ?_ ?_
  · rintro lp n _ rfl
    exact ⟨_, _, _, hS.2.2.1 _ _⟩
  · intro lp; rfl
  · rintro fid D k _ hk rfl
    have hxk := Fd.at_has hf hk
    have hset : ((setsUp f l f.n).map Sp.cs)[k]? = some [iv (setOf f l (f.at k)).lo, iv (setOf f l (f.at k)).hi] := by
      simp [setsUp, List.getElem?_range hk, Sp.cs]
    rw [hb]
    refine ⟨_, .inl ⟨?_, rfl⟩⟩
    refine AYield.of_body (get_snd0 ..) rfl (by decide) ?_
    have e1 : setPs T ((#[12, 13] : Array Tmp).toList.zip [iv k, .agg (f.at k).cs]) = upd (upd T 12 (iv k)) 13 (.agg [iv (f.at k).m, iv (f.at k).c]) := rfl
    rw [e1]
    repeat' (first | refine spD (fun _ => ?_) (fun _ => ?_) | refine spF (fun _ => ?_) (fun _ => ?_) | ((first | (apply stp0; (exact rfl); (exact rfl)) | (apply stpN0; (exact rfl))); (simp only [go_sem, ↓reduceIte, Nat.reduceEqDiff, Nat.reduceBEq, Nat.reduceAdd, Nat.reduceLeDiff, Nat.reduceMul, Nat.reduceLT, Int.reduceToNat, reduceCtorEq, Int.reduceBEq, Int.reduceBNe, Int.reduceLT, Int.reduceLE, Int.reduceGT, Int.reduceGE, h3, h4, h5, h7, Spot.cs]; rfl); (first | exact okT | exact okN | exact okE rfl)) | (apply gT; (exact rfl)) | (apply off; (exact rfl); (exact rfl)) | refine thenQ_n ?_ | refine thenQ_r ?_ | refine thenQ_e ?_ | refine blockQ_n ?_ | refine blockQ_r ?_ | refine blockQ_e ?_ | (apply blockQ_o; (exact rfl)) | refine Awp.seq ?_ | refine Awp.skip ?_ | refine Awp.block ?_ | refine reg (fun s => s == 7 || s == 9) ?_ | (apply drwE mixed (fun s => s == 7 || s == 9); (kernel_rfl)) | refine fin ?_ | (apply condT; (exact rfl)) | (apply condF; (exact rfl)) | refine Awp.ret ?_ | refine Awp.exit ?_ | ((first | apply bodyQ_d0 | apply bodyQ_d1 | apply bodyQ_d2 | apply bodyQ_d3 | apply bodyQ_d4); (exact .inr rfl); (rw [Try.results55]; simp only [go_sem, ↓reduceIte, Nat.reduceEqDiff, Nat.reduceBEq, Nat.reduceAdd, Nat.reduceLeDiff, Nat.reduceMul, Nat.reduceLT, Int.reduceToNat, reduceCtorEq, Int.reduceBEq, Int.reduceBNe, Int.reduceLT, Int.reduceLE, Int.reduceGT, Int.reduceGE, h3, h4, h5, h7, Spot.cs]; rfl); (first | (show Bel _ _; (focus first | exact .val _ | (simp [oneOf, Bel_iff_tup, Bel_iff_agg, Bel_iff_rsl, Bel_val]; done))) | (fail_if_success (show Bel _ _)))) | ((first | apply gT | apply condT); (focus (simp only [go_sem, ↓reduceIte, Nat.reduceEqDiff, Nat.reduceBEq, Nat.reduceAdd, Nat.reduceLeDiff, Nat.reduceMul, Nat.reduceLT, Int.reduceToNat, reduceCtorEq, Int.reduceBEq, Int.reduceBNe, Int.reduceLT, Int.reduceLE, Int.reduceGT, Int.reduceGE, h3, h4, h5, h7, Spot.cs] <;> rfl))) | ((first | (apply off; (exact rfl)) | apply condF); (focus (simp only [go_sem, ↓reduceIte, Nat.reduceEqDiff, Nat.reduceBEq, Nat.reduceAdd, Nat.reduceLeDiff, Nat.reduceMul, Nat.reduceLT, Int.reduceToNat, reduceCtorEq, Int.reduceBEq, Int.reduceBNe, Int.reduceLT, Int.reduceLE, Int.reduceGT, Int.reduceGE, h3, h4, h5, h7, Spot.cs] <;> rfl))))
    refine ⟨rfl, _, _, _, _, _, _, _, _, get_snd .., ?_⟩
    rw [set_snd]
    refine Awp.withT (fun T' => T' 3 = .rptr [.mptr s 0 0] 0 ∧ T' 4 = .rptr [iv x.m, iv x.c] 0 ∧ T' 5 = .rptr [iv e] 0 ∧ T' 7 = .mptr H.length 0 0 ∧ T' 8 = iv k ∧ T' 9 = .mptr (H.length + 2) 0 0) ⟨?_, ?_, ?_, ?_, ?_, ?_⟩ ?_
    · simp only [go_sem, ↓reduceIte, Nat.reduceEqDiff, Nat.reduceBEq, Nat.reduceAdd, Nat.reduceLeDiff, Nat.reduceMul, Nat.reduceLT, Int.reduceToNat, reduceCtorEq, Int.reduceBEq, Int.reduceBNe, Int.reduceLT, Int.reduceLE, Int.reduceGT, Int.reduceGE, h3]
    · simp only [go_sem, ↓reduceIte, Nat.reduceEqDiff, Nat.reduceBEq, Nat.reduceAdd, Nat.reduceLeDiff, Nat.reduceMul, Nat.reduceLT, Int.reduceToNat, reduceCtorEq, Int.reduceBEq, Int.reduceBNe, Int.reduceLT, Int.reduceLE, Int.reduceGT, Int.reduceGE, h4]
    · simp only [go_sem, ↓reduceIte, Nat.reduceEqDiff, Nat.reduceBEq, Nat.reduceAdd, Nat.reduceLeDiff, Nat.reduceMul, Nat.reduceLT, Int.reduceToNat, reduceCtorEq, Int.reduceBEq, Int.reduceBNe, Int.reduceLT, Int.reduceLE, Int.reduceGT, Int.reduceGE, h5]
    · simp only [go_sem, ↓reduceIte, Nat.reduceEqDiff, Nat.reduceBEq, Nat.reduceAdd, Nat.reduceLeDiff, Nat.reduceMul, Nat.reduceLT, Int.reduceToNat, reduceCtorEq, Int.reduceBEq, Int.reduceBNe, Int.reduceLT, Int.reduceLE, Int.reduceGT, Int.reduceGE, h7]
    · simp only [go_sem, ↓reduceIte, Nat.reduceEqDiff, Nat.reduceBEq, Nat.reduceAdd, Nat.reduceLeDiff, Nat.reduceMul, Nat.reduceLT, Int.reduceToNat, reduceCtorEq, Int.reduceBEq, Int.reduceBNe, Int.reduceLT, Int.reduceLE, Int.reduceGT, Int.reduceGE]
    · simp only [go_sem, ↓reduceIte, Nat.reduceEqDiff, Nat.reduceBEq, Nat.reduceAdd, Nat.reduceLeDiff, Nat.reduceMul, Nat.reduceLT, Int.reduceToNat, reduceCtorEq, Int.reduceBEq, Int.reduceBNe, Int.reduceLT, Int.reduceLE, Int.reduceGT, Int.reduceGE, List.length_append]
    clear h3 h4 h5 h7
    rintro T2 ⟨h3, h4, h5, h7, h8, h9⟩
    have b1 := setOf_in hf hxk hl
    have b2 := Fd.away_in hf hx hxk
    have b3 := prom_in hf hl hx h0 h1 k (by omega)
    have b4 := promAt_in hf hl hx h0 h1 hk
    have hnn := hf.nn
    have w1 : IntKind.i64.wrap ((setOf f l (f.at k)).hi - (setOf f l (f.at k)).lo) = (setOf f l (f.at k)).hi - (setOf f l (f.at k)).lo := w64 (by omega) (by omega)
    have w2 : IntKind.i64.wrap (2 * f.away x (f.at k)) = 2 * f.away x (f.at k) := w64 (by omega) (by omega)
    have w3 : IntKind.i64.wrap (e + 2 * f.away x (f.at k)) = e + 2 * f.away x (f.at k) := w64 (by omega) (by omega)
    have w4 : IntKind.i64.wrap (prom f l x e k + min ((setOf f l (f.at k)).hi - (setOf f l (f.at k)).lo) (e + 2 * f.away x (f.at k))) = prom f l x e (k + 1) := by
      unfold promAt at b4
      rw [w64 (by omega) (by omega)]
      rfl
    repeat' (first | refine spD (fun _ => ?_) (fun _ => ?_) | refine spF (fun _ => ?_) (fun _ => ?_) | ((first | (apply stp0; (exact rfl); (exact rfl)) | (apply stpN0; (exact rfl))); (simp only [go_sem, ↓reduceIte, Nat.reduceEqDiff, Nat.reduceBEq, Nat.reduceAdd, Nat.reduceLeDiff, Nat.reduceMul, Nat.reduceLT, Int.reduceToNat, reduceCtorEq, Int.reduceBEq, Int.reduceBNe, Int.reduceLT, Int.reduceLE, Int.reduceGT, Int.reduceGE, h3, h4, h5, h7, h8, h9, Spot.cs, hS', hset, get_trd, w1, w2, w3, w4]; rfl); (first | exact okT | exact okN | exact okE rfl)) | (apply gT; (exact rfl)) | (apply off; (exact rfl); (exact rfl)) | (apply calTo0; (exact rfl); (iterate 2 (simp only [go_sem, ↓reduceIte, Nat.reduceEqDiff, Nat.reduceBEq, Nat.reduceAdd, Nat.reduceLeDiff, Nat.reduceMul, Nat.reduceLT, Int.reduceToNat, reduceCtorEq, Int.reduceBEq, Int.reduceBNe, Int.reduceLT, Int.reduceLE, Int.reduceGT, Int.reduceGE, h3, h4, h5, h7, h8, h9, Spot.cs, hS', hset, get_trd, w1, w2, w3, w4]; rfl)); (first | exact away_ok _ s f hf [seen, .rsl ((setsUp f l f.n).map Sp.cs) ex] 88 [] (hS.2.2.2.1 _ _ _) x (f.at k) hx hxk); (first | exact okT | exact okN | exact okE rfl)) | refine thenQ_n ?_ | refine thenQ_r ?_ | refine thenQ_e ?_ | refine blockQ_n ?_ | refine blockQ_r ?_ | refine blockQ_e ?_ | (apply blockQ_o; (exact rfl)) | refine Awp.seq ?_ | refine Awp.skip ?_ | refine Awp.block ?_ | refine reg (fun s => s == 7 || s == 9) ?_ | (apply drwE mixed (fun s => s == 7 || s == 9); (kernel_rfl)) | refine fin ?_ | (apply condT; (exact rfl)) | (apply condF; (exact rfl)) | refine Awp.ret ?_ | refine Awp.exit ?_ | ((first | apply bodyQ_d0 | apply bodyQ_d1 | apply bodyQ_d2 | apply bodyQ_d3 | apply bodyQ_d4); (exact .inr rfl); (rw [Try.results55]; simp only [go_sem, ↓reduceIte, Nat.reduceEqDiff, Nat.reduceBEq, Nat.reduceAdd, Nat.reduceLeDiff, Nat.reduceMul, Nat.reduceLT, Int.reduceToNat, reduceCtorEq, Int.reduceBEq, Int.reduceBNe, Int.reduceLT, Int.reduceLE, Int.reduceGT, Int.reduceGE, h3, h4, h5, h7, h8, h9, Spot.cs, hS', hset, get_trd, w1, w2, w3, w4]; rfl); (first | (show Bel _ _; (focus first | exact .val _ | (simp [oneOf, Bel_iff_tup, Bel_iff_agg, Bel_iff_rsl, Bel_val]; done))) | (fail_if_success (show Bel _ _)))) | ((first | apply gT | apply condT); (focus (simp only [go_sem, ↓reduceIte, Nat.reduceEqDiff, Nat.reduceBEq, Nat.reduceAdd, Nat.reduceLeDiff, Nat.reduceMul, Nat.reduceLT, Int.reduceToNat, reduceCtorEq, Int.reduceBEq, Int.reduceBNe, Int.reduceLT, Int.reduceLE, Int.reduceGT, Int.reduceGE, h3, h4, h5, h7, h8, h9, Spot.cs, hS', hset, get_trd, w1, w2, w3, w4] <;> rfl))) | ((first | (apply off; (exact rfl)) | apply condF); (focus (simp only [go_sem, ↓reduceIte, Nat.reduceEqDiff, Nat.reduceBEq, Nat.reduceAdd, Nat.reduceLeDiff, Nat.reduceMul, Nat.reduceLT, Int.reduceToNat, reduceCtorEq, Int.reduceBEq, Int.reduceBNe, Int.reduceLT, Int.reduceLE, Int.reduceGT, Int.reduceGE, h3, h4, h5, h7, h8, h9, Spot.cs, hS', hset, get_trd, w1, w2, w3, w4] <;> rfl))))
    refine ⟨.busy, none, fid, T, 42, _, _, _, D, get_snd .., _, ?_, rfl, rfl⟩
    rw [set_snd]
    refine Vs.dropTo (by simp) (fun hbel b ob hob hn => ?_) (.val _)
    rcases Nat.lt_trichotomy b H.length with h | h | h
    · rw [List.append_assoc, List.getElem?_append_left h] at hob
      have := hbel b ob (by rw [List.append_assoc, List.getElem?_append_left h]; exact hob) hn
      simpa using this
    · subst h
      rw [get_mid] at hob
      cases hob
      exact BelO_cells (by simp [Bel_val])
    · have hb1 : b = H.length + 1 := by
        have := (List.getElem?_eq_some_iff.1 hob).1
        simp at this
        omega
      subst hb1
      have := hbel (H.length + 1) ob (by rw [get_snd0] at hob ⊢; exact hob) hn
      simpa using this
  · rintro fid D v H' (rfl | h)
    · rw [hb]
      refine ⟨.ready, none, fid, T, 42, _, _, _, D, get_snd0 .., by simp, ?_⟩
      rw [set_snd0]
      repeat' (first | refine spD (fun _ => ?_) (fun _ => ?_) | refine spF (fun _ => ?_) (fun _ => ?_) | ((first | (apply stp0; (exact rfl); (exact rfl)) | (apply stpN0; (exact rfl))); (simp only [go_sem, ↓reduceIte, Nat.reduceEqDiff, Nat.reduceBEq, Nat.reduceAdd, Nat.reduceLeDiff, Nat.reduceMul, Nat.reduceLT, Int.reduceToNat, reduceCtorEq, Int.reduceBEq, Int.reduceBNe, Int.reduceLT, Int.reduceLE, Int.reduceGT, Int.reduceGE, h7]; rfl); (first | exact okT | exact okN | exact okE rfl)) | (apply gT; (exact rfl)) | (apply off; (exact rfl); (exact rfl)) | refine thenQ_n ?_ | refine thenQ_r ?_ | refine thenQ_e ?_ | refine blockQ_n ?_ | refine blockQ_r ?_ | refine blockQ_e ?_ | (apply blockQ_o; (exact rfl)) | refine Awp.seq ?_ | refine Awp.skip ?_ | refine Awp.block ?_ | refine reg (fun s => s == 7 || s == 9) ?_ | (apply drwE mixed (fun s => s == 7 || s == 9); (kernel_rfl)) | refine fin ?_ | (apply condT; (exact rfl)) | (apply condF; (exact rfl)) | refine Awp.ret ?_ | refine Awp.exit ?_ | ((first | apply bodyQ_d0 | apply bodyQ_d1 | apply bodyQ_d2 | apply bodyQ_d3 | apply bodyQ_d4); (exact .inr rfl); (rw [Try.results55]; simp only [go_sem, ↓reduceIte, Nat.reduceEqDiff, Nat.reduceBEq, Nat.reduceAdd, Nat.reduceLeDiff, Nat.reduceMul, Nat.reduceLT, Int.reduceToNat, reduceCtorEq, Int.reduceBEq, Int.reduceBNe, Int.reduceLT, Int.reduceLE, Int.reduceGT, Int.reduceGE, h7]; rfl); (first | (show Bel _ _; (focus first | exact .val _ | (simp [oneOf, Bel_iff_tup, Bel_iff_agg, Bel_iff_rsl, Bel_val]; done))) | (fail_if_success (show Bel _ _)))) | ((first | apply gT | apply condT); (focus (simp only [go_sem, ↓reduceIte, Nat.reduceEqDiff, Nat.reduceBEq, Nat.reduceAdd, Nat.reduceLeDiff, Nat.reduceMul, Nat.reduceLT, Int.reduceToNat, reduceCtorEq, Int.reduceBEq, Int.reduceBNe, Int.reduceLT, Int.reduceLE, Int.reduceGT, Int.reduceGE, h7] <;> rfl))) | ((first | (apply off; (exact rfl)) | apply condF); (focus (simp only [go_sem, ↓reduceIte, Nat.reduceEqDiff, Nat.reduceBEq, Nat.reduceAdd, Nat.reduceLeDiff, Nat.reduceMul, Nat.reduceLT, Int.reduceToNat, reduceCtorEq, Int.reduceBEq, Int.reduceBNe, Int.reduceLT, Int.reduceLE, Int.reduceGT, Int.reduceGE, h7] <;> rfl))))
      rfl
    · exact h.elim

end Go.Proofs.Ytehagceghnjamaa.Ab
