/- Fields: chart. -/
import Derived.Test.YtehagceghnjamaaF8
namespace Go.Proofs.Ytehagceghnjamaa.Ab
open Go Go.RowKit Go.Proofs
set_option linter.unusedSimpArgs false
set_option linter.unusedVariables false
attribute [local irreducible] Awp wpO thenQ blockQ bodyQ ACalls stepA

def lpO (st : LoopState) (fid : FuncId) (T : Env) (ps : Array Tmp) (a b : Code) (D : Nat) : AObj := .loop st none fid T 82 ps a b D
def ptrO (s : Nat) : AObj := .cells [[.mptr s 0 0]] 82

theorem List.set_getElem?_self' {α : Type} {l : List α} {i : Nat} {a : α} (h : l[i]? = some a) : l.set i a = l := by
  refine List.ext_getElem? fun j => ?_
  rw [List.getElem?_set]
  split
  · rename_i e; subst e; rw [h]; simp [(List.getElem?_eq_some_iff.1 h).1]
  · rfl

theorem heapSplit {H K : Hp} {S : AObj} (h : ∀ i, i < H.length → K[i]? = H[i]?) (hS : K[H.length]? = some S) : K = H ++ [S] ++ K.drop (H.length + 1) := by
  refine List.ext_getElem? fun i => ?_
  rcases Nat.lt_trichotomy i H.length with hi | hi | hi
  · rw [h i hi, List.append_assoc, List.getElem?_append_left hi]
  · subst hi; rw [hS, List.append_assoc, List.getElem?_append_right (Nat.le_refl _)]; simp
  · rw [List.getElem?_append_right (by simp; omega), List.getElem?_drop]
    congr 1
    simp
    omega

/-- the end of a round: the new row moves to the end of what is kept -/
theorem chartEnd {H' A G : Hp} {s b len : Nat} {f : Fd} {seen : AV} {lp blk : AObj} (hlen : A.length = H'.length) (hsb : s ≠ b) (hsl : s < H'.length) (hbl : b < H'.length) (hlp : H'[b]? = some lp)
    (hother : ∀ i ob, i ≠ s → i ≠ b → A[i]? = some ob → ob ≠ .dead → H'[i]? = some ob) (hseen : ∀ m, Bel m seen) (hblk : ∀ m, BelO m blk) :
    Vs H' (bv true) (((A ++ G ++ [blk]).set s (.cells [f.cs ++ [seen, .msl (A ++ G).length 0 len]] 88)).set b lp) (bv true) (((A.set b lp).set s (sea f seen (.msl H'.length 0 len))) ++ [blk]) := by
  have e1 : ((A ++ G ++ [blk]).set s (.cells [f.cs ++ [seen, .msl (A ++ G).length 0 len]] 88)).set b lp = ((A.set s (.cells [f.cs ++ [seen, .msl (A ++ G).length 0 len]] 88)).set b lp) ++ G ++ [blk] := by
    rw [List.append_assoc, List.set_append_left _ _ (by omega), List.set_append_left _ _ (by simp; omega), List.append_assoc]
  rw [e1]
  have hl : ((A.set s (.cells [f.cs ++ [seen, .msl (A ++ G).length 0 len]] 88)).set b lp).length = H'.length := by simp [hlen]
  have hl2 : (((A.set s (.cells [f.cs ++ [seen, .msl (A ++ G).length 0 len]] 88)).set b lp) ++ G).length = (A ++ G).length := by simp
  have := Vs.move (H0 := H') (A := (A.set s (.cells [f.cs ++ [seen, .msl (A ++ G).length 0 len]] 88)).set b lp) (G := G) (blk := blk) (s := s) (len := len) (pre := f.cs ++ [seen]) (post := []) (t := 88) (a := bv true) (by omega) ?_ ?_ (by simp) ?_ (hblk _) (.val _)
  · rw [hl] at this
    have e2 : (((A.set s (.cells [f.cs ++ [seen, .msl (A ++ G).length 0 len]] 88)).set b lp).set s (.cells [f.cs ++ [seen] ++ .msl H'.length 0 len :: []] 88)) = (A.set b lp).set s (sea f seen (.msl H'.length 0 len)) := by
      rw [List.set_comm _ _ hsb, List.set_set]
      simp [sea]
    rw [e2] at this
    exact this
  · rw [hl2, List.getElem?_set_ne (Ne.symm hsb), List.getElem?_set_self (by omega)]
    simp
  · intro c hc
    simp only [Fd.cs, List.cons_append, List.nil_append, List.mem_cons, List.not_mem_nil, or_false] at hc
    rcases hc with rfl | rfl | rfl | rfl | rfl | rfl | rfl | rfl <;> first | exact .val _ | exact hseen _
  · intro hb i ob hi hob hn
    rw [hl]
    by_cases e : i = b
    · subst e
      rw [List.getElem?_set_self (by simp; omega)] at hob
      cases hob
      exact hb i _ hlp hn
    · rw [List.getElem?_set_ne (Ne.symm e), List.getElem?_set_ne (Ne.symm hi)] at hob
      exact hb i ob (hother i ob hi e hob hn) hn

structure ChI (H : Hp) (f : Fd) (seen : AV) (l : List Seen) (lp : AObj) (n : Nat) (H' : Hp) (sets : AV) : Prop where
  len : H'.length = H.length + 3 + n
  old : ∀ i, i < H.length → H'[i]? = H[i]?
  sea : H'[H.length]? = some (sea f seen sets)
  ptr : H'[H.length + 1]? = some (ptrO H.length)
  lp : H'[H.length + 2]? = some lp
  dead : ∀ i, H.length + 3 ≤ i → i + 1 < H'.length → H'[i]? = some .dead
  sets : (n = 0 ∧ sets = nilS) ∨ (0 < n ∧ sets = .msl (H'.length - 1) 0 n ∧ H'[H'.length - 1]? = some (.cells ((setsUp f l n).map Sp.cs) 23))

theorem chart_ok (H : Hp) (f : Fd) (l : List Seen) (ex : Bool) (hc : f.code l = 0) (hn : con f l = none) :
    CallsTo Try.prog 51 [.agg f.cs, .rsl (l.map Seen.cs) ex] H (.tup [.mptr H.length 0 0, iv 0]) (H ++ [sea f (.rsl (l.map Seen.cs) ex) (.rsl ((setsUp f l f.n).map Sp.cs) false)]) := by
  obtain ⟨hf, hlen64, hl⟩ := code0 hc
  have hlen : l.length ≤ maxLen := by simp only [maxLen]; omega
  have hcall := contradict_ok (H ++ [sea f (.rsl (l.map Seen.cs) ex) nilS] ++ [ptrO H.length]) H.length f hf l ex hlen hl nilS ((held (get_new _ _)).2.1 _)
  rw [hn] at hcall
  have hspots := spots_ok (H ++ [sea f (.rsl (l.map Seen.cs) ex) nilS] ++ [ptrO H.length]) H.length
  refine ACalls.of_body Try.func51 rfl (by kernel_rfl) (by rw [Try.ntmps51]; simp) ?_; rw [Try.ntmps51]
  repeat' (first | refine spD (fun _ => ?_) (fun _ => ?_) | refine spF (fun _ => ?_) (fun _ => ?_) | ((first | (apply stp0; (exact rfl); (exact rfl)) | (apply stpN0; (exact rfl))); (simp only [go_sem, ↓reduceIte, Nat.reduceEqDiff, Nat.reduceBEq, Nat.reduceAdd, Nat.reduceLeDiff, Nat.reduceMul, Nat.reduceLT, Int.reduceToNat, reduceCtorEq, Int.reduceBEq, Int.reduceBNe, Int.reduceLT, Int.reduceLE, Int.reduceGT, Int.reduceGE, Fd.cs, conV]; rfl); (first | exact okT | exact okN | exact okE rfl)) | (apply gT; (exact rfl)) | (apply off; (exact rfl); (exact rfl)) | (apply calTo0; (exact rfl); (iterate 2 (simp only [go_sem, ↓reduceIte, Nat.reduceEqDiff, Nat.reduceBEq, Nat.reduceAdd, Nat.reduceLeDiff, Nat.reduceMul, Nat.reduceLT, Int.reduceToNat, reduceCtorEq, Int.reduceBEq, Int.reduceBNe, Int.reduceLT, Int.reduceLE, Int.reduceGT, Int.reduceGE, Fd.cs, conV]; rfl)); (first | exact open_yes _ f l ex hc | exact hcall | exact hspots); (first | exact okT | exact okN | exact okE rfl)) | refine thenQ_n ?_ | refine thenQ_r ?_ | refine thenQ_e ?_ | refine blockQ_n ?_ | refine blockQ_r ?_ | refine blockQ_e ?_ | (apply blockQ_o; (exact rfl)) | refine Awp.seq ?_ | refine Awp.skip ?_ | refine Awp.block ?_ | refine reg (fun s => s == 6 || s == 12 || s == 13 || s == 15) ?_ | (apply drwE mixed (fun s => s == 6 || s == 12 || s == 13 || s == 15); (kernel_rfl)) | refine fin ?_ | (apply condT; (exact rfl)) | (apply condF; (exact rfl)) | refine Awp.ret ?_ | refine Awp.exit ?_ | ((first | apply bodyQ_d0 | apply bodyQ_d1 | apply bodyQ_d2 | apply bodyQ_d3 | apply bodyQ_d4); (exact .inr rfl); (rw [Try.results51]; simp only [go_sem, ↓reduceIte, Nat.reduceEqDiff, Nat.reduceBEq, Nat.reduceAdd, Nat.reduceLeDiff, Nat.reduceMul, Nat.reduceLT, Int.reduceToNat, reduceCtorEq, Int.reduceBEq, Int.reduceBNe, Int.reduceLT, Int.reduceLE, Int.reduceGT, Int.reduceGE, Fd.cs, conV]; rfl); (first | (show Bel _ _; (focus first | exact .val _ | (simp [oneOf, Bel_iff_tup, Bel_iff_agg, Bel_iff_rsl, Bel_val]; done))) | (fail_if_success (show Bel _ _)))) | ((first | apply gT | apply condT); (focus (simp only [go_sem, ↓reduceIte, Nat.reduceEqDiff, Nat.reduceBEq, Nat.reduceAdd, Nat.reduceLeDiff, Nat.reduceMul, Nat.reduceLT, Int.reduceToNat, reduceCtorEq, Int.reduceBEq, Int.reduceBNe, Int.reduceLT, Int.reduceLE, Int.reduceGT, Int.reduceGE, Fd.cs, conV] <;> rfl))) | ((first | (apply off; (exact rfl)) | apply condF); (focus (simp only [go_sem, ↓reduceIte, Nat.reduceEqDiff, Nat.reduceBEq, Nat.reduceAdd, Nat.reduceLeDiff, Nat.reduceMul, Nat.reduceLT, Int.reduceToNat, reduceCtorEq, Int.reduceBEq, Int.reduceBNe, Int.reduceLT, Int.reduceLE, Int.reduceGT, Int.reduceGE, Fd.cs, conV] <;> rfl))))
  refine Awp.withT (fun T' => T' 3 = .rptr [.rsl (l.map Seen.cs) ex] 0 ∧ T' 6 = .mptr (H.length + 1) 0 0 ∧ T' 34 = .fn (.func 88) [.rptr [.mptr H.length 0 0] 0]) ⟨?_, ?_, ?_⟩ ?_
  · simp only [go_sem, ↓reduceIte, Nat.reduceEqDiff, Nat.reduceBEq, Nat.reduceAdd, Nat.reduceLeDiff, Nat.reduceMul, Nat.reduceLT, Int.reduceToNat, reduceCtorEq, Int.reduceBEq, Int.reduceBNe, Int.reduceLT, Int.reduceLE, Int.reduceGT, Int.reduceGE]
  · simp only [go_sem, ↓reduceIte, Nat.reduceEqDiff, Nat.reduceBEq, Nat.reduceAdd, Nat.reduceLeDiff, Nat.reduceMul, Nat.reduceLT, Int.reduceToNat, reduceCtorEq, Int.reduceBEq, Int.reduceBNe, Int.reduceLT, Int.reduceLE, Int.reduceGT, Int.reduceGE, List.length_append]
  · simp only [go_sem, ↓reduceIte, Nat.reduceEqDiff, Nat.reduceBEq, Nat.reduceAdd, Nat.reduceLeDiff, Nat.reduceMul, Nat.reduceLT, Int.reduceToNat, reduceCtorEq, Int.reduceBEq, Int.reduceBNe, Int.reduceLT, Int.reduceLE, Int.reduceGT, Int.reduceGE]
  rintro T ⟨h3, h6, h34⟩
  have hb : (H ++ [sea f (.rsl (l.map Seen.cs) ex) nilS] ++ [ptrO H.length]).length = H.length + 2 := by simp
  refine overSpots f hf H.length h34 (fun lp n H' => ∃ sets, ChI H f (.rsl (l.map Seen.cs) ex) l lp n H' sets) (fun _ _ => False) ?_ ?_ ?_ ?_
  · rintro lp n H' ⟨sets, h⟩
    exact ⟨_, _, _, h.sea⟩
  · intro lp
    refine ⟨nilS, by simp, fun i hi => ?_, ?_, ?_, ?_, fun i h1 h2 => ?_, .inl ⟨rfl, rfl⟩⟩
    · rw [List.append_assoc, List.append_assoc, List.getElem?_append_left hi]
    · exact get_new3 ..
    · rw [List.append_assoc, List.append_assoc, List.getElem?_append_right (by omega)]; simp
    · rw [List.append_assoc, List.append_assoc, List.getElem?_append_right (by omega)]; simp
    · simp at h2; omega
  · rintro fid D k H' hk ⟨sets, hI⟩
    have hx := Fd.at_has hf hk
    rw [hb]
    refine ⟨?_, .inl ⟨?_, ?_⟩⟩
    · exact ((((if k = 0 then H' else H'.set (H'.length - 1) .dead).set H.length (sea f (.rsl (l.map Seen.cs) ex) (.msl H'.length 0 (k + 1))))) ++ [.cells ((setsUp f l (k + 1)).map Sp.cs) 23])
    · refine AYield.of_body hI.lp rfl (by decide) ?_
      have e : setPs T ((#[35, 36] : Array Tmp).toList.zip [iv k, .agg (f.at k).cs]) = upd (upd T 35 (iv k)) 36 (.agg [iv (f.at k).m, iv (f.at k).c]) := rfl
      rw [e]
      repeat' (first | refine spD (fun _ => ?_) (fun _ => ?_) | refine spF (fun _ => ?_) (fun _ => ?_) | ((first | (apply stp0; (exact rfl); (exact rfl)) | (apply stpN0; (exact rfl))); (simp only [go_sem, ↓reduceIte, Nat.reduceEqDiff, Nat.reduceBEq, Nat.reduceAdd, Nat.reduceLeDiff, Nat.reduceMul, Nat.reduceLT, Int.reduceToNat, reduceCtorEq, Int.reduceBEq, Int.reduceBNe, Int.reduceLT, Int.reduceLE, Int.reduceGT, Int.reduceGE, h3, h6, Spot.cs]; rfl); (first | exact okT | exact okN | exact okE rfl)) | (apply gT; (exact rfl)) | (apply off; (exact rfl); (exact rfl)) | refine thenQ_n ?_ | refine thenQ_r ?_ | refine thenQ_e ?_ | refine blockQ_n ?_ | refine blockQ_r ?_ | refine blockQ_e ?_ | (apply blockQ_o; (exact rfl)) | refine Awp.seq ?_ | refine Awp.skip ?_ | refine Awp.block ?_ | refine reg (fun s => s == 6 || s == 12 || s == 13 || s == 15) ?_ | (apply drwE mixed (fun s => s == 6 || s == 12 || s == 13 || s == 15); (kernel_rfl)) | refine fin ?_ | (apply condT; (exact rfl)) | (apply condF; (exact rfl)) | refine Awp.ret ?_ | refine Awp.exit ?_ | ((first | apply bodyQ_d0 | apply bodyQ_d1 | apply bodyQ_d2 | apply bodyQ_d3 | apply bodyQ_d4); (exact .inr rfl); (rw [Try.results51]; simp only [go_sem, ↓reduceIte, Nat.reduceEqDiff, Nat.reduceBEq, Nat.reduceAdd, Nat.reduceLeDiff, Nat.reduceMul, Nat.reduceLT, Int.reduceToNat, reduceCtorEq, Int.reduceBEq, Int.reduceBNe, Int.reduceLT, Int.reduceLE, Int.reduceGT, Int.reduceGE, h3, h6, Spot.cs]; rfl); (first | (show Bel _ _; (focus first | exact .val _ | (simp [oneOf, Bel_iff_tup, Bel_iff_agg, Bel_iff_rsl, Bel_val]; done))) | (fail_if_success (show Bel _ _)))) | ((first | apply gT | apply condT); (focus (simp only [go_sem, ↓reduceIte, Nat.reduceEqDiff, Nat.reduceBEq, Nat.reduceAdd, Nat.reduceLeDiff, Nat.reduceMul, Nat.reduceLT, Int.reduceToNat, reduceCtorEq, Int.reduceBEq, Int.reduceBNe, Int.reduceLT, Int.reduceLE, Int.reduceGT, Int.reduceGE, h3, h6, Spot.cs] <;> rfl))) | ((first | (apply off; (exact rfl)) | apply condF); (focus (simp only [go_sem, ↓reduceIte, Nat.reduceEqDiff, Nat.reduceBEq, Nat.reduceAdd, Nat.reduceLeDiff, Nat.reduceMul, Nat.reduceLT, Int.reduceToNat, reduceCtorEq, Int.reduceBEq, Int.reduceBNe, Int.reduceLT, Int.reduceLE, Int.reduceGT, Int.reduceGE, h3, h6, Spot.cs] <;> rfl))))
      refine ⟨rfl, _, _, _, _, _, _, _, _, (held hI.lp).2.1 _, ?_⟩
      have hlenI := hI.len
      rw [List.set_append_left _ _ (by omega)]
      refine Awp.withH (fun A => A.length = H'.length ∧ A[H.length]? = some (sea f (.rsl (l.map Seen.cs) ex) sets) ∧ A[H.length + 1]? = some (ptrO H.length) ∧ (0 < k → A[H'.length - 1]? = some (.cells ((setsUp f l k).map Sp.cs) 23)) ∧
        ∃ a b, A[H.length + 2]? = some (.loop .busy none fid T 82 #[35, 36] a b D) ∧ A.set (H.length + 2) (.loop .ready none fid T 82 #[35, 36] a b D) = H') ⟨by simp, ?_, ?_, ?_, _, _, List.getElem?_set_self (by omega), (List.set_set ..).trans (List.set_getElem?_self' hI.lp)⟩ ?_
      · rw [List.getElem?_set_ne (by omega)]; exact hI.sea
      · rw [List.getElem?_set_ne (by omega)]; exact hI.ptr
      · intro h0
        rw [List.getElem?_set_ne (by omega)]
        rcases hI.sets with ⟨h1, _⟩ | ⟨_, _, h1⟩
        · omega
        · exact h1
      rintro A ⟨hAl, hAs, hAp, hAc, asg, bdy, hAb, hAset⟩
      have hS := held hAs
      have hS' := hS
      simp only [sea, Fd.cs, List.cons_append, List.nil_append] at hS'
      have hP := held hAp
      have hP' := hP
      simp only [ptrO] at hP'
      repeat' (first | refine spD (fun _ => ?_) (fun _ => ?_) | refine spF (fun _ => ?_) (fun _ => ?_) | ((first | (apply stp0; (exact rfl); (exact rfl)) | (apply stpN0; (exact rfl))); (simp only [go_sem, ↓reduceIte, Nat.reduceEqDiff, Nat.reduceBEq, Nat.reduceAdd, Nat.reduceLeDiff, Nat.reduceMul, Nat.reduceLT, Int.reduceToNat, reduceCtorEq, Int.reduceBEq, Int.reduceBNe, Int.reduceLT, Int.reduceLE, Int.reduceGT, Int.reduceGE, h3, h6, Spot.cs, hP', hS']; rfl); (first | exact okT | exact okN | exact okE rfl)) | (apply gT; (exact rfl)) | (apply off; (exact rfl); (exact rfl)) | refine thenQ_n ?_ | refine thenQ_r ?_ | refine thenQ_e ?_ | refine blockQ_n ?_ | refine blockQ_r ?_ | refine blockQ_e ?_ | (apply blockQ_o; (exact rfl)) | refine Awp.seq ?_ | refine Awp.skip ?_ | refine Awp.block ?_ | refine reg (fun s => s == 6 || s == 12 || s == 13 || s == 15) ?_ | (apply drwE mixed (fun s => s == 6 || s == 12 || s == 13 || s == 15); (kernel_rfl)) | refine fin ?_ | (apply condT; (exact rfl)) | (apply condF; (exact rfl)) | refine Awp.ret ?_ | refine Awp.exit ?_ | ((first | apply bodyQ_d0 | apply bodyQ_d1 | apply bodyQ_d2 | apply bodyQ_d3 | apply bodyQ_d4); (exact .inr rfl); (rw [Try.results51]; simp only [go_sem, ↓reduceIte, Nat.reduceEqDiff, Nat.reduceBEq, Nat.reduceAdd, Nat.reduceLeDiff, Nat.reduceMul, Nat.reduceLT, Int.reduceToNat, reduceCtorEq, Int.reduceBEq, Int.reduceBNe, Int.reduceLT, Int.reduceLE, Int.reduceGT, Int.reduceGE, h3, h6, Spot.cs, hP', hS']; rfl); (first | (show Bel _ _; (focus first | exact .val _ | (simp [oneOf, Bel_iff_tup, Bel_iff_agg, Bel_iff_rsl, Bel_val]; done))) | (fail_if_success (show Bel _ _)))) | ((first | apply gT | apply condT); (focus (simp only [go_sem, ↓reduceIte, Nat.reduceEqDiff, Nat.reduceBEq, Nat.reduceAdd, Nat.reduceLeDiff, Nat.reduceMul, Nat.reduceLT, Int.reduceToNat, reduceCtorEq, Int.reduceBEq, Int.reduceBNe, Int.reduceLT, Int.reduceLE, Int.reduceGT, Int.reduceGE, h3, h6, Spot.cs, hP', hS'] <;> rfl))) | ((first | (apply off; (exact rfl)) | apply condF); (focus (simp only [go_sem, ↓reduceIte, Nat.reduceEqDiff, Nat.reduceBEq, Nat.reduceAdd, Nat.reduceLeDiff, Nat.reduceMul, Nat.reduceLT, Int.reduceToNat, reduceCtorEq, Int.reduceBEq, Int.reduceBNe, Int.reduceLT, Int.reduceLE, Int.reduceGT, Int.reduceGE, h3, h6, Spot.cs, hP', hS'] <;> rfl))))
      have hnn := hf.nn
      have hAl' := hAl.symm
      refine Awp.loop (ι := Nat) (fun i T' H2 => i ≤ l.length ∧ T' 44 = iv i ∧ T' 42 = .rsl (l.map Seen.cs) ex ∧ T' 43 = iv l.length ∧ T' 12 = .mptr A.length 0 0 ∧ T' 13 = .mptr (A ++ [AObj.cells [[iv (f.at k).m, iv (f.at k).c]] 37]).length 0 0 ∧ T' 6 = .mptr (H.length + 1) 0 0 ∧
        ∃ X, H2 = A ++ [AObj.cells [[iv (f.at k).m, iv (f.at k).c]] 37] ++ [AObj.cells [[iv (setN f l (f.at k) i).lo, iv (setN f l (f.at k) i).hi]] 23] ++ X) (fun i => l.length - i) 0 ?_ ?_
      · refine ⟨by simp, ?_, ?_, ?_, ?_, ?_, ?_, [], ?_⟩
        · simp only [go_sem, ↓reduceIte, Nat.reduceEqDiff, Nat.reduceBEq, Nat.reduceAdd, Nat.reduceLeDiff, Nat.reduceMul, Nat.reduceLT, Int.reduceToNat, reduceCtorEq, Int.reduceBEq, Int.reduceBNe, Int.reduceLT, Int.reduceLE, Int.reduceGT, Int.reduceGE]
          rfl
        · simp only [go_sem, ↓reduceIte, Nat.reduceEqDiff, Nat.reduceBEq, Nat.reduceAdd, Nat.reduceLeDiff, Nat.reduceMul, Nat.reduceLT, Int.reduceToNat, reduceCtorEq, Int.reduceBEq, Int.reduceBNe, Int.reduceLT, Int.reduceLE, Int.reduceGT, Int.reduceGE]
        · simp only [go_sem, ↓reduceIte, Nat.reduceEqDiff, Nat.reduceBEq, Nat.reduceAdd, Nat.reduceLeDiff, Nat.reduceMul, Nat.reduceLT, Int.reduceToNat, reduceCtorEq, Int.reduceBEq, Int.reduceBNe, Int.reduceLT, Int.reduceLE, Int.reduceGT, Int.reduceGE]
        · simp only [go_sem, ↓reduceIte, Nat.reduceEqDiff, Nat.reduceBEq, Nat.reduceAdd, Nat.reduceLeDiff, Nat.reduceMul, Nat.reduceLT, Int.reduceToNat, reduceCtorEq, Int.reduceBEq, Int.reduceBNe, Int.reduceLT, Int.reduceLE, Int.reduceGT, Int.reduceGE, hAl']
        · simp only [go_sem, ↓reduceIte, Nat.reduceEqDiff, Nat.reduceBEq, Nat.reduceAdd, Nat.reduceLeDiff, Nat.reduceMul, Nat.reduceLT, Int.reduceToNat, reduceCtorEq, Int.reduceBEq, Int.reduceBNe, Int.reduceLT, Int.reduceLE, Int.reduceGT, Int.reduceGE]
        · simp only [go_sem, ↓reduceIte, Nat.reduceEqDiff, Nat.reduceBEq, Nat.reduceAdd, Nat.reduceLeDiff, Nat.reduceMul, Nat.reduceLT, Int.reduceToNat, reduceCtorEq, Int.reduceBEq, Int.reduceBNe, Int.reduceLT, Int.reduceLE, Int.reduceGT, Int.reduceGE, h6]
        · rw [List.append_nil]; rfl
      rintro i T2 H2 ⟨hi, h44, h42, h43, h12, h13, h6', X, rfl⟩
      repeat' (first | refine spD (fun _ => ?_) (fun _ => ?_) | refine spF (fun _ => ?_) (fun _ => ?_) | ((first | (apply stp0; (exact rfl); (exact rfl)) | (apply stpN0; (exact rfl))); (simp only [go_sem, ↓reduceIte, Nat.reduceEqDiff, Nat.reduceBEq, Nat.reduceAdd, Nat.reduceLeDiff, Nat.reduceMul, Nat.reduceLT, Int.reduceToNat, reduceCtorEq, Int.reduceBEq, Int.reduceBNe, Int.reduceLT, Int.reduceLE, Int.reduceGT, Int.reduceGE, h44, h42, h43]; rfl); (first | exact trivial | exact ⟨fun _ => rfl, fun _ _ => rfl, fun h => Bool.noConfusion (show false = true from h)⟩ | (refine ⟨fun _ => rfl, fun _ _ => rfl, fun _ H2 hk => ?_⟩; have e := (hk (H.length + 1) (beq_self_eq_true _)).trans (hP.1); unfold PerfTo; simp only [callOf]; (focus first | (simp only [go_sem, ↓reduceIte, Nat.reduceEqDiff, Nat.reduceBEq, Nat.reduceAdd, Nat.reduceLeDiff, Nat.reduceMul, Nat.reduceLT, Int.reduceToNat, reduceCtorEq, Int.reduceBEq, Int.reduceBNe, Int.reduceLT, Int.reduceLE, Int.reduceGT, Int.reduceGE, h44, h42, h43, e]; done) | (simp only [go_sem, ↓reduceIte, Nat.reduceEqDiff, Nat.reduceBEq, Nat.reduceAdd, Nat.reduceLeDiff, Nat.reduceMul, Nat.reduceLT, Int.reduceToNat, reduceCtorEq, Int.reduceBEq, Int.reduceBNe, Int.reduceLT, Int.reduceLE, Int.reduceGT, Int.reduceGE, h44, h42, h43, e]; rfl))) | (refine ⟨fun h => Bool.noConfusion (show true = false from h), fun b hb => ?_, fun h => Bool.noConfusion (show false = true from h)⟩; have hb' := eq_of_beq hb; subst hb'; skip))) | (apply gT; (exact rfl)) | (apply off; (exact rfl); (exact rfl)) | refine thenQ_n ?_ | refine thenQ_r ?_ | refine thenQ_e ?_ | refine blockQ_n ?_ | refine blockQ_r ?_ | refine blockQ_e ?_ | (apply blockQ_o; (exact rfl)) | refine Awp.seq ?_ | refine Awp.skip ?_ | refine Awp.block ?_ | refine reg (fun s => s == 6 || s == 12 || s == 13 || s == 15) ?_ | (apply drw mixed (fun s => s == 6 || s == 12 || s == 13 || s == 15) ⟨fun i => i == 7 || i == 10, fun i => i == 0, fun b => b == H.length + 1⟩; (kernel_rfl)) | refine fin ?_ | (apply condT; (exact rfl)) | (apply condF; (exact rfl)) | refine Awp.ret ?_ | refine Awp.exit ?_ | ((first | apply bodyQ_d0 | apply bodyQ_d1 | apply bodyQ_d2 | apply bodyQ_d3 | apply bodyQ_d4); (exact .inr rfl); (rw [Try.results51]; simp only [go_sem, ↓reduceIte, Nat.reduceEqDiff, Nat.reduceBEq, Nat.reduceAdd, Nat.reduceLeDiff, Nat.reduceMul, Nat.reduceLT, Int.reduceToNat, reduceCtorEq, Int.reduceBEq, Int.reduceBNe, Int.reduceLT, Int.reduceLE, Int.reduceGT, Int.reduceGE, h44, h42, h43]; rfl); (first | (show Bel _ _; (focus first | exact .val _ | (simp [oneOf, Bel_iff_tup, Bel_iff_agg, Bel_iff_rsl, Bel_val]; done))) | (fail_if_success (show Bel _ _)))) | ((first | apply gT | apply condT); (focus (simp only [go_sem, ↓reduceIte, Nat.reduceEqDiff, Nat.reduceBEq, Nat.reduceAdd, Nat.reduceLeDiff, Nat.reduceMul, Nat.reduceLT, Int.reduceToNat, reduceCtorEq, Int.reduceBEq, Int.reduceBNe, Int.reduceLT, Int.reduceLE, Int.reduceGT, Int.reduceGE, h44, h42, h43] <;> rfl))) | ((first | (apply off; (exact rfl)) | apply condF); (focus (simp only [go_sem, ↓reduceIte, Nat.reduceEqDiff, Nat.reduceBEq, Nat.reduceAdd, Nat.reduceLeDiff, Nat.reduceMul, Nat.reduceLT, Int.reduceToNat, reduceCtorEq, Int.reduceBEq, Int.reduceBNe, Int.reduceLT, Int.reduceLE, Int.reduceGT, Int.reduceGE, h44, h42, h43] <;> rfl))))
      · rename_i hlt
        obtain ⟨a, ha⟩ := nth (show i < l.length by omega)
        have hy := nthMap Seen.cs ha
        have hgood := hl a (List.mem_of_getElem? ha)
        have hsm := hgood.small
        have hd := Fd.away_in hf hx hgood.1
        have e1 : IntKind.i64.wrap (a.lo - f.away (f.at k) a.spot) = a.lo - f.away (f.at k) a.spot := w64 (by omega) (by omega)
        have e2 : IntKind.i64.wrap (a.hi + f.away (f.at k) a.spot) = a.hi + f.away (f.at k) a.spot := w64 (by omega) (by omega)
        repeat' (first | refine spD (fun _ => ?_) (fun _ => ?_) | refine spF (fun _ => ?_) (fun _ => ?_) | ((first | (apply stp0; (exact rfl); (exact rfl)) | (apply stpN0; (exact rfl))); (simp only [go_sem, ↓reduceIte, Nat.reduceEqDiff, Nat.reduceBEq, Nat.reduceAdd, Nat.reduceLeDiff, Nat.reduceMul, Nat.reduceLT, Int.reduceToNat, reduceCtorEq, Int.reduceBEq, Int.reduceBNe, Int.reduceLT, Int.reduceLE, Int.reduceGT, Int.reduceGE, h44, h42, h43, h12, h13, h6', hy, hP', Seen.cs, e1, e2]; rfl); (first | exact okT | exact okN | exact okE rfl)) | (apply gT; (exact rfl)) | (apply off; (exact rfl); (exact rfl)) | (apply calTo0; (exact rfl); (iterate 2 (simp only [go_sem, ↓reduceIte, Nat.reduceEqDiff, Nat.reduceBEq, Nat.reduceAdd, Nat.reduceLeDiff, Nat.reduceMul, Nat.reduceLT, Int.reduceToNat, reduceCtorEq, Int.reduceBEq, Int.reduceBNe, Int.reduceLT, Int.reduceLE, Int.reduceGT, Int.reduceGE, h44, h42, h43, h12, h13, h6', hy, hP', Seen.cs, e1, e2]; rfl)); (first | exact away_ok _ H.length f hf [.rsl (l.map Seen.cs) ex, sets] 88 [] (hS.2.2.2.2.1 _ _ _ _) (f.at k) a.spot hx hgood.1); (first | exact okT | exact okN | exact okE rfl)) | refine thenQ_n ?_ | refine thenQ_r ?_ | refine thenQ_e ?_ | refine blockQ_n ?_ | refine blockQ_r ?_ | refine blockQ_e ?_ | (apply blockQ_o; (exact rfl)) | refine Awp.seq ?_ | refine Awp.skip ?_ | refine Awp.block ?_ | refine reg (fun s => s == 6 || s == 12 || s == 13 || s == 15) ?_ | (apply drwE mixed (fun s => s == 6 || s == 12 || s == 13 || s == 15); (kernel_rfl)) | refine fin ?_ | (apply condT; (exact rfl)) | (apply condF; (exact rfl)) | refine Awp.ret ?_ | refine Awp.exit ?_ | ((first | apply bodyQ_d0 | apply bodyQ_d1 | apply bodyQ_d2 | apply bodyQ_d3 | apply bodyQ_d4); (exact .inr rfl); (rw [Try.results51]; simp only [go_sem, ↓reduceIte, Nat.reduceEqDiff, Nat.reduceBEq, Nat.reduceAdd, Nat.reduceLeDiff, Nat.reduceMul, Nat.reduceLT, Int.reduceToNat, reduceCtorEq, Int.reduceBEq, Int.reduceBNe, Int.reduceLT, Int.reduceLE, Int.reduceGT, Int.reduceGE, h44, h42, h43, h12, h13, h6', hy, hP', Seen.cs, e1, e2]; rfl); (first | (show Bel _ _; (focus first | exact .val _ | (simp [oneOf, Bel_iff_tup, Bel_iff_agg, Bel_iff_rsl, Bel_val]; done))) | (fail_if_success (show Bel _ _)))) | ((first | apply gT | apply condT); (focus (simp only [go_sem, ↓reduceIte, Nat.reduceEqDiff, Nat.reduceBEq, Nat.reduceAdd, Nat.reduceLeDiff, Nat.reduceMul, Nat.reduceLT, Int.reduceToNat, reduceCtorEq, Int.reduceBEq, Int.reduceBNe, Int.reduceLT, Int.reduceLE, Int.reduceGT, Int.reduceGE, h44, h42, h43, h12, h13, h6', hy, hP', Seen.cs, e1, e2] <;> rfl))) | ((first | (apply off; (exact rfl)) | apply condF); (focus (simp only [go_sem, ↓reduceIte, Nat.reduceEqDiff, Nat.reduceBEq, Nat.reduceAdd, Nat.reduceLeDiff, Nat.reduceMul, Nat.reduceLT, Int.reduceToNat, reduceCtorEq, Int.reduceBEq, Int.reduceBNe, Int.reduceLT, Int.reduceLE, Int.reduceGT, Int.reduceGE, h44, h42, h43, h12, h13, h6', hy, hP', Seen.cs, e1, e2] <;> rfl))))
        refine ⟨i + 1, ⟨by omega, ?_, ?_, ?_, ?_, ?_, ?_, X ++ [AObj.cells [a.cs] 39], ?_⟩, by omega⟩
        · simp only [go_sem, ↓reduceIte, Nat.reduceEqDiff, Nat.reduceBEq, Nat.reduceAdd, Nat.reduceLeDiff, Nat.reduceMul, Nat.reduceLT, Int.reduceToNat, reduceCtorEq, Int.reduceBEq, Int.reduceBNe, Int.reduceLT, Int.reduceLE, Int.reduceGT, Int.reduceGE, wsucc (show i < l.length by omega) hlen]
        · simp only [go_sem, ↓reduceIte, Nat.reduceEqDiff, Nat.reduceBEq, Nat.reduceAdd, Nat.reduceLeDiff, Nat.reduceMul, Nat.reduceLT, Int.reduceToNat, reduceCtorEq, Int.reduceBEq, Int.reduceBNe, Int.reduceLT, Int.reduceLE, Int.reduceGT, Int.reduceGE, h42]
        · simp only [go_sem, ↓reduceIte, Nat.reduceEqDiff, Nat.reduceBEq, Nat.reduceAdd, Nat.reduceLeDiff, Nat.reduceMul, Nat.reduceLT, Int.reduceToNat, reduceCtorEq, Int.reduceBEq, Int.reduceBNe, Int.reduceLT, Int.reduceLE, Int.reduceGT, Int.reduceGE, h43]
        · simp only [go_sem, ↓reduceIte, Nat.reduceEqDiff, Nat.reduceBEq, Nat.reduceAdd, Nat.reduceLeDiff, Nat.reduceMul, Nat.reduceLT, Int.reduceToNat, reduceCtorEq, Int.reduceBEq, Int.reduceBNe, Int.reduceLT, Int.reduceLE, Int.reduceGT, Int.reduceGE, h12]
        · simp only [go_sem, ↓reduceIte, Nat.reduceEqDiff, Nat.reduceBEq, Nat.reduceAdd, Nat.reduceLeDiff, Nat.reduceMul, Nat.reduceLT, Int.reduceToNat, reduceCtorEq, Int.reduceBEq, Int.reduceBNe, Int.reduceLT, Int.reduceLE, Int.reduceGT, Int.reduceGE, h13]
        · simp only [go_sem, ↓reduceIte, Nat.reduceEqDiff, Nat.reduceBEq, Nat.reduceAdd, Nat.reduceLeDiff, Nat.reduceMul, Nat.reduceLT, Int.reduceToNat, reduceCtorEq, Int.reduceBEq, Int.reduceBNe, Int.reduceLT, Int.reduceLE, Int.reduceGT, Int.reduceGE, h6']
        · rw [setN_succ ha]; simp [stepS, Seen.cs]
      · rename_i hlt
        rw [setN_end (by omega)]
        have hlpI : H'[H.length + 2]? = some (.loop .ready none fid T 82 #[35, 36] asg bdy D) := by rw [← hAset]; exact List.getElem?_set_self (by omega)
        have hseenB : ∀ m, Bel m (.rsl (l.map Seen.cs) ex) := fun m => by simp [Bel_iff_rsl, Seen.cs, Bel_val]
        have hblkB : ∀ {j : Nat} (m : Nat), BelO m (.cells ((setsUp f l j).map Sp.cs) 23) := fun m => BelO_cells (by simp [Sp.cs, Bel_val])
        rcases hI.sets with ⟨rfl, rfl⟩ | ⟨hk0, rfl, _⟩
        · repeat' (first | refine spD (fun _ => ?_) (fun _ => ?_) | refine spF (fun _ => ?_) (fun _ => ?_) | ((first | (apply stp0; (exact rfl); (exact rfl)) | (apply stpN0; (exact rfl))); (simp only [go_sem, ↓reduceIte, Nat.reduceEqDiff, Nat.reduceBEq, Nat.reduceAdd, Nat.reduceLeDiff, Nat.reduceMul, Nat.reduceLT, Int.reduceToNat, reduceCtorEq, Int.reduceBEq, Int.reduceBNe, Int.reduceLT, Int.reduceLE, Int.reduceGT, Int.reduceGE, h13, h6', hP', hS']; rfl); (first | exact trivial | exact ⟨fun _ => rfl, fun _ _ => rfl, fun h => Bool.noConfusion (show false = true from h)⟩ | (refine ⟨fun _ => rfl, fun _ _ => rfl, fun _ H2 hk => ?_⟩; have e := (hk (H.length + 1) (beq_self_eq_true _)).trans (hP'.2.2.2.1 _ _ _); unfold PerfTo; simp only [callOf]; (focus first | (simp only [go_sem, ↓reduceIte, Nat.reduceEqDiff, Nat.reduceBEq, Nat.reduceAdd, Nat.reduceLeDiff, Nat.reduceMul, Nat.reduceLT, Int.reduceToNat, reduceCtorEq, Int.reduceBEq, Int.reduceBNe, Int.reduceLT, Int.reduceLE, Int.reduceGT, Int.reduceGE, h13, h6', hP', hS', e]; done) | (simp only [go_sem, ↓reduceIte, Nat.reduceEqDiff, Nat.reduceBEq, Nat.reduceAdd, Nat.reduceLeDiff, Nat.reduceMul, Nat.reduceLT, Int.reduceToNat, reduceCtorEq, Int.reduceBEq, Int.reduceBNe, Int.reduceLT, Int.reduceLE, Int.reduceGT, Int.reduceGE, h13, h6', hP', hS', e]; rfl))) | (refine ⟨fun h => Bool.noConfusion (show true = false from h), fun b hb => ?_, fun h => Bool.noConfusion (show false = true from h)⟩; have hb' := eq_of_beq hb; subst hb'; first | (focus (simp only [go_sem, ↓reduceIte, Nat.reduceEqDiff, Nat.reduceBEq, Nat.reduceAdd, Nat.reduceLeDiff, Nat.reduceMul, Nat.reduceLT, Int.reduceToNat, reduceCtorEq, Int.reduceBEq, Int.reduceBNe, Int.reduceLT, Int.reduceLE, Int.reduceGT, Int.reduceGE, hP']; done)) | (focus (rw [List.getElem?_set_ne (by omega)]))))) | (apply gT; (exact rfl)) | (apply off; (exact rfl); (exact rfl)) | refine thenQ_n ?_ | refine thenQ_r ?_ | refine thenQ_e ?_ | refine blockQ_n ?_ | refine blockQ_r ?_ | refine blockQ_e ?_ | (apply blockQ_o; (exact rfl)) | refine Awp.seq ?_ | refine Awp.skip ?_ | refine Awp.block ?_ | refine reg (fun s => s == 6 || s == 12 || s == 13 || s == 15) ?_ | (apply drw mixed (fun s => s == 6 || s == 12 || s == 13 || s == 15) ⟨fun i => i == 7 || i == 10, fun i => i == 0, fun b => b == H.length + 1⟩; (kernel_rfl)) | refine fin ?_ | (apply condT; (exact rfl)) | (apply condF; (exact rfl)) | refine Awp.ret ?_ | refine Awp.exit ?_ | ((first | apply bodyQ_d0 | apply bodyQ_d1 | apply bodyQ_d2 | apply bodyQ_d3 | apply bodyQ_d4); (exact .inr rfl); (rw [Try.results51]; simp only [go_sem, ↓reduceIte, Nat.reduceEqDiff, Nat.reduceBEq, Nat.reduceAdd, Nat.reduceLeDiff, Nat.reduceMul, Nat.reduceLT, Int.reduceToNat, reduceCtorEq, Int.reduceBEq, Int.reduceBNe, Int.reduceLT, Int.reduceLE, Int.reduceGT, Int.reduceGE, h13, h6', hP', hS']; rfl); (first | (show Bel _ _; (focus first | exact .val _ | (simp [oneOf, Bel_iff_tup, Bel_iff_agg, Bel_iff_rsl, Bel_val]; done))) | (fail_if_success (show Bel _ _)))) | ((first | apply gT | apply condT); (focus (simp only [go_sem, ↓reduceIte, Nat.reduceEqDiff, Nat.reduceBEq, Nat.reduceAdd, Nat.reduceLeDiff, Nat.reduceMul, Nat.reduceLT, Int.reduceToNat, reduceCtorEq, Int.reduceBEq, Int.reduceBNe, Int.reduceLT, Int.reduceLE, Int.reduceGT, Int.reduceGE, h13, h6', hP', hS'] <;> rfl))) | ((first | (apply off; (exact rfl)) | apply condF); (focus (simp only [go_sem, ↓reduceIte, Nat.reduceEqDiff, Nat.reduceBEq, Nat.reduceAdd, Nat.reduceLeDiff, Nat.reduceMul, Nat.reduceLT, Int.reduceToNat, reduceCtorEq, Int.reduceBEq, Int.reduceBNe, Int.reduceLT, Int.reduceLE, Int.reduceGT, Int.reduceGE, h13, h6', hP', hS'] <;> rfl))))
          have hV := chartEnd (H' := H') (A := A) (G := [AObj.cells [[iv (f.at 0).m, iv (f.at 0).c]] 37] ++ [AObj.cells [[iv (setOf f l (f.at 0)).lo, iv (setOf f l (f.at 0)).hi]] 23] ++ X) (s := H.length) (b := H.length + 2) (len := 1) (f := f) (seen := .rsl (l.map Seen.cs) ex)
            (lp := .loop .ready none fid T 82 #[35, 36] asg bdy D) (blk := .cells ((setsUp f l 1).map Sp.cs) 23) hAl (by omega) (by omega) (by omega) hlpI (fun i ob h1 h2 h3 _ => by rw [← hAset, List.getElem?_set_ne (Ne.symm h2)]; exact h3) hseenB hblkB
          refine ⟨.busy, none, fid, T, 82, #[35, 36], asg, bdy, D, ?_, _, ?_, rfl, rfl⟩
          · rw [List.getElem?_set_ne (by omega)]
            exact (held hAb).2.2.2.2.1 _ _ _ _
          · rw [hAset] at hV
            rw [if_pos rfl]
            simpa [List.append_assoc, sea, Fd.cs, setsUp, List.range_succ, Sp.cs] using hV
        · have hC := held (hAc hk0)
          have hlk : (setsUp f l k).length = k := by simp [setsUp]
          have hall : ((setsUp f l k).map Sp.cs).all (fun e => e.length == 2) = true := by simp [Sp.cs]
          have hby : (k + 1) * 16 ≤ 140737488355328 := by omega
          have hk1 := Nat.le_refl k
          have htk : ((setsUp f l k).map Sp.cs).take k = (setsUp f l k).map Sp.cs := List.take_of_length_le (by simp [hlk])
          have hset : (A ++ [AObj.cells [[iv (f.at k).m, iv (f.at k).c]] 37] ++ [AObj.cells [[iv (setOf f l (f.at k)).lo, iv (setOf f l (f.at k)).hi]] 23] ++ X).set (H'.length - 1) .dead =
              A.set (H'.length - 1) .dead ++ [AObj.cells [[iv (f.at k).m, iv (f.at k).c]] 37] ++ [AObj.cells [[iv (setOf f l (f.at k)).lo, iv (setOf f l (f.at k)).hi]] 23] ++ X := by
            rw [List.append_assoc, List.append_assoc, List.set_append_left _ _ (by omega), List.append_assoc, List.append_assoc]
          have hP1 := held (show (A.set (H'.length - 1) .dead)[H.length + 1]? = _ by rw [List.getElem?_set_ne (by omega)]; exact hP'.1)
          have hS1 := held (show (A.set (H'.length - 1) .dead)[H.length]? = _ by rw [List.getElem?_set_ne (by omega)]; exact hS'.1)
          repeat' (first | refine spD (fun _ => ?_) (fun _ => ?_) | refine spF (fun _ => ?_) (fun _ => ?_) | ((first | (apply stp0; (exact rfl); (exact rfl)) | (apply stpN0; (exact rfl))); (simp only [go_sem, ↓reduceIte, Nat.reduceEqDiff, Nat.reduceBEq, Nat.reduceAdd, Nat.reduceLeDiff, Nat.reduceMul, Nat.reduceLT, Int.reduceToNat, reduceCtorEq, Int.reduceBEq, Int.reduceBNe, Int.reduceLT, Int.reduceLE, Int.reduceGT, Int.reduceGE, h13, h6', hP', hS', hC, hlk, hall, hby, hk0, hk1, htk, hset, hP1, hS1]; rfl); (first | exact trivial | exact ⟨fun _ => rfl, fun _ _ => rfl, fun h => Bool.noConfusion (show false = true from h)⟩ | (refine ⟨fun _ => rfl, fun _ _ => rfl, fun _ H2 hk => ?_⟩; have e := (hk (H.length + 1) (beq_self_eq_true _)).trans (hP'.2.2.2.1 _ _ _); unfold PerfTo; simp only [callOf]; (focus first | (simp only [go_sem, ↓reduceIte, Nat.reduceEqDiff, Nat.reduceBEq, Nat.reduceAdd, Nat.reduceLeDiff, Nat.reduceMul, Nat.reduceLT, Int.reduceToNat, reduceCtorEq, Int.reduceBEq, Int.reduceBNe, Int.reduceLT, Int.reduceLE, Int.reduceGT, Int.reduceGE, h13, h6', hP', hS', hC, hlk, hall, hby, hk0, hk1, htk, hset, hP1, hS1, e]; done) | (simp only [go_sem, ↓reduceIte, Nat.reduceEqDiff, Nat.reduceBEq, Nat.reduceAdd, Nat.reduceLeDiff, Nat.reduceMul, Nat.reduceLT, Int.reduceToNat, reduceCtorEq, Int.reduceBEq, Int.reduceBNe, Int.reduceLT, Int.reduceLE, Int.reduceGT, Int.reduceGE, h13, h6', hP', hS', hC, hlk, hall, hby, hk0, hk1, htk, hset, hP1, hS1, e]; rfl))) | (refine ⟨fun h => Bool.noConfusion (show true = false from h), fun b hb => ?_, fun h => Bool.noConfusion (show false = true from h)⟩; have hb' := eq_of_beq hb; subst hb'; first | (focus (simp only [go_sem, ↓reduceIte, Nat.reduceEqDiff, Nat.reduceBEq, Nat.reduceAdd, Nat.reduceLeDiff, Nat.reduceMul, Nat.reduceLT, Int.reduceToNat, reduceCtorEq, Int.reduceBEq, Int.reduceBNe, Int.reduceLT, Int.reduceLE, Int.reduceGT, Int.reduceGE, hP', hP1]; done)) | (focus (rw [List.getElem?_set_ne (by omega)]))))) | (apply gT; (exact rfl)) | (apply off; (exact rfl); (exact rfl)) | refine thenQ_n ?_ | refine thenQ_r ?_ | refine thenQ_e ?_ | refine blockQ_n ?_ | refine blockQ_r ?_ | refine blockQ_e ?_ | (apply blockQ_o; (exact rfl)) | refine Awp.seq ?_ | refine Awp.skip ?_ | refine Awp.block ?_ | refine reg (fun s => s == 6 || s == 12 || s == 13 || s == 15) ?_ | (apply drw mixed (fun s => s == 6 || s == 12 || s == 13 || s == 15) ⟨fun i => i == 7 || i == 10, fun i => i == 0, fun b => b == H.length + 1⟩; (kernel_rfl)) | refine fin ?_ | (apply condT; (exact rfl)) | (apply condF; (exact rfl)) | refine Awp.ret ?_ | refine Awp.exit ?_ | ((first | apply bodyQ_d0 | apply bodyQ_d1 | apply bodyQ_d2 | apply bodyQ_d3 | apply bodyQ_d4); (exact .inr rfl); (rw [Try.results51]; simp only [go_sem, ↓reduceIte, Nat.reduceEqDiff, Nat.reduceBEq, Nat.reduceAdd, Nat.reduceLeDiff, Nat.reduceMul, Nat.reduceLT, Int.reduceToNat, reduceCtorEq, Int.reduceBEq, Int.reduceBNe, Int.reduceLT, Int.reduceLE, Int.reduceGT, Int.reduceGE, h13, h6', hP', hS', hC, hlk, hall, hby, hk0, hk1, htk, hset, hP1, hS1]; rfl); (first | (show Bel _ _; (focus first | exact .val _ | (simp [oneOf, Bel_iff_tup, Bel_iff_agg, Bel_iff_rsl, Bel_val]; done))) | (fail_if_success (show Bel _ _)))) | ((first | apply gT | apply condT); (focus (simp only [go_sem, ↓reduceIte, Nat.reduceEqDiff, Nat.reduceBEq, Nat.reduceAdd, Nat.reduceLeDiff, Nat.reduceMul, Nat.reduceLT, Int.reduceToNat, reduceCtorEq, Int.reduceBEq, Int.reduceBNe, Int.reduceLT, Int.reduceLE, Int.reduceGT, Int.reduceGE, h13, h6', hP', hS', hC, hlk, hall, hby, hk0, hk1, htk, hset, hP1, hS1] <;> rfl))) | ((first | (apply off; (exact rfl)) | apply condF); (focus (simp only [go_sem, ↓reduceIte, Nat.reduceEqDiff, Nat.reduceBEq, Nat.reduceAdd, Nat.reduceLeDiff, Nat.reduceMul, Nat.reduceLT, Int.reduceToNat, reduceCtorEq, Int.reduceBEq, Int.reduceBNe, Int.reduceLT, Int.reduceLE, Int.reduceGT, Int.reduceGE, h13, h6', hP', hS', hC, hlk, hall, hby, hk0, hk1, htk, hset, hP1, hS1] <;> rfl))))
          have hV := chartEnd (H' := H') (A := A.set (H'.length - 1) .dead) (G := [AObj.cells [[iv (f.at k).m, iv (f.at k).c]] 37] ++ [AObj.cells [[iv (setOf f l (f.at k)).lo, iv (setOf f l (f.at k)).hi]] 23] ++ X) (s := H.length) (b := H.length + 2) (len := k + 1) (f := f) (seen := .rsl (l.map Seen.cs) ex)
            (lp := .loop .ready none fid T 82 #[35, 36] asg bdy D) (blk := .cells ((setsUp f l (k + 1)).map Sp.cs) 23) (by simp [hAl]) (by omega) (by omega) (by omega) hlpI
            (fun i ob h1 h2 h3 hn => by
              rw [List.getElem?_set] at h3
              split at h3
              · split at h3
                · cases h3; exact absurd rfl hn
                · cases h3
              · rw [← hAset, List.getElem?_set_ne (Ne.symm h2)]; exact h3) hseenB hblkB
          have hB1 := held (show (A.set (H'.length - 1) .dead)[H.length + 2]? = _ by rw [List.getElem?_set_ne (by omega)]; exact hAb)
          refine ⟨.busy, none, fid, T, 82, #[35, 36], asg, bdy, D, ?_, _, ?_, rfl, rfl⟩
          · rw [List.getElem?_set_ne (by omega)]
            exact hB1.2.2.2.2.1 _ _ _ _
          · have e3 : (A.set (H'.length - 1) AObj.dead).set (H.length + 2) (.loop .ready none fid T 82 #[35, 36] asg bdy D) = H'.set (H'.length - 1) .dead := by
              rw [List.set_comm _ _ (by omega), hAset]
            rw [e3] at hV
            rw [if_neg (by omega)]
            rw [setsUp_succ] at hV ⊢
            simpa [List.append_assoc, sea, Fd.cs, Sp.cs] using hV
    · have hlenI := hI.len
      have hs0 : ∀ i, i ≠ H.length → i < H'.length → (((if k = 0 then H' else H'.set (H'.length - 1) .dead).set H.length (sea f (.rsl (l.map Seen.cs) ex) (.msl H'.length 0 (k + 1)))) ++ [AObj.cells ((setsUp f l (k + 1)).map Sp.cs) 23])[i]? = if 0 < k ∧ i = H'.length - 1 then some .dead else H'[i]? := by
        intro i h1 h2
        rw [List.getElem?_append_left (by by_cases h0 : k = 0 <;> simp [h0] <;> omega), List.getElem?_set_ne (Ne.symm h1)]
        by_cases h0 : k = 0
        · subst h0; simp
        · rw [if_neg h0, List.getElem?_set]
          by_cases e : H'.length - 1 = i
          · rw [if_pos e, if_pos (by omega), if_pos ⟨by omega, e.symm⟩]
          · rw [if_neg e, if_neg (fun h => e h.2.symm)]
      have hl1 : (((if k = 0 then H' else H'.set (H'.length - 1) .dead).set H.length (sea f (.rsl (l.map Seen.cs) ex) (.msl H'.length 0 (k + 1)))) ++ [AObj.cells ((setsUp f l (k + 1)).map Sp.cs) 23]).length = H'.length + 1 := by by_cases h0 : k = 0 <;> simp [h0]
      refine ⟨.msl H'.length 0 (k + 1), by omega, fun i hi => ?_, ?_, ?_, ?_, fun i h1 h2 => ?_, .inr ⟨by omega, ?_, ?_⟩⟩
      · rw [hs0 i (by omega) (by omega), if_neg (by omega)]; exact hI.old i hi
      · rw [List.getElem?_append_left (by by_cases h0 : k = 0 <;> simp [h0] <;> omega), List.getElem?_set_self (by by_cases h0 : k = 0 <;> simp [h0] <;> omega)]
      · rw [hs0 _ (by omega) (by omega), if_neg (by omega)]; exact hI.ptr
      · rw [hs0 _ (by omega) (by omega), if_neg (by omega)]; exact hI.lp
      · rw [hl1] at h2
        rw [hs0 _ (by omega) (by omega)]
        split
        · rfl
        · exact hI.dead i h1 (by omega)
      · rw [hl1]; simp
      · rw [hl1, List.getElem?_append_right (by by_cases h0 : k = 0 <;> simp [h0])]
        by_cases h0 : k = 0 <;> simp [h0]
  · rintro fid D v H' (⟨sets, hI⟩ | h)
    · have hnn := hf.nn
      have hlenI := hI.len
      rcases hI.sets with ⟨h1, _⟩ | ⟨_, rfl, hset⟩
      · omega
      rw [hb]
      refine ⟨.ready, none, fid, T, 82, _, _, _, D, hI.lp, by simp, ?_⟩
      have hP2 : (H'.set (H.length + 2) .dead)[H.length + 1]? = some (.cells [[.mptr H.length 0 0]] 82) := by rw [List.getElem?_set_ne (by omega)]; exact hI.ptr
      repeat' (first | refine spD (fun _ => ?_) (fun _ => ?_) | refine spF (fun _ => ?_) (fun _ => ?_) | ((first | (apply stp0; (exact rfl); (exact rfl)) | (apply stpN0; (exact rfl))); (simp only [go_sem, ↓reduceIte, Nat.reduceEqDiff, Nat.reduceBEq, Nat.reduceAdd, Nat.reduceLeDiff, Nat.reduceMul, Nat.reduceLT, Int.reduceToNat, reduceCtorEq, Int.reduceBEq, Int.reduceBNe, Int.reduceLT, Int.reduceLE, Int.reduceGT, Int.reduceGE, h6, hP2]; rfl); (first | exact okT | exact okN | exact okE rfl)) | (apply gT; (exact rfl)) | (apply off; (exact rfl); (exact rfl)) | refine thenQ_n ?_ | refine thenQ_r ?_ | refine thenQ_e ?_ | refine blockQ_n ?_ | refine blockQ_r ?_ | refine blockQ_e ?_ | (apply blockQ_o; (exact rfl)) | refine Awp.seq ?_ | refine Awp.skip ?_ | refine Awp.block ?_ | refine reg (fun s => s == 6 || s == 12 || s == 13 || s == 15) ?_ | (apply drwE mixed (fun s => s == 6 || s == 12 || s == 13 || s == 15); (kernel_rfl)) | refine fin ?_ | (apply condT; (exact rfl)) | (apply condF; (exact rfl)) | refine Awp.ret ?_ | refine Awp.exit ?_ | ((first | apply bodyQ_d0 | apply bodyQ_d1 | apply bodyQ_d2 | apply bodyQ_d3 | apply bodyQ_d4); (exact .inr rfl); (rw [Try.results51]; simp only [go_sem, ↓reduceIte, Nat.reduceEqDiff, Nat.reduceBEq, Nat.reduceAdd, Nat.reduceLeDiff, Nat.reduceMul, Nat.reduceLT, Int.reduceToNat, reduceCtorEq, Int.reduceBEq, Int.reduceBNe, Int.reduceLT, Int.reduceLE, Int.reduceGT, Int.reduceGE, h6, hP2]; rfl); (first | (show Bel _ _; (focus first | exact .val _ | (simp [oneOf, Bel_iff_tup, Bel_iff_agg, Bel_iff_rsl, Bel_val]; done))) | (fail_if_success (show Bel _ _)))) | ((first | apply gT | apply condT); (focus (simp only [go_sem, ↓reduceIte, Nat.reduceEqDiff, Nat.reduceBEq, Nat.reduceAdd, Nat.reduceLeDiff, Nat.reduceMul, Nat.reduceLT, Int.reduceToNat, reduceCtorEq, Int.reduceBEq, Int.reduceBNe, Int.reduceLT, Int.reduceLE, Int.reduceGT, Int.reduceGE, h6, hP2] <;> rfl))) | ((first | (apply off; (exact rfl)) | apply condF); (focus (simp only [go_sem, ↓reduceIte, Nat.reduceEqDiff, Nat.reduceBEq, Nat.reduceAdd, Nat.reduceLeDiff, Nat.reduceMul, Nat.reduceLT, Int.reduceToNat, reduceCtorEq, Int.reduceBEq, Int.reduceBNe, Int.reduceLT, Int.reduceLE, Int.reduceGT, Int.reduceGE, h6, hP2] <;> rfl))))
      have hs2 : (H'.set (H.length + 2) .dead)[H.length]? = some (.cells [f.cs ++ [.rsl (l.map Seen.cs) ex] ++ .msl (H'.length - 1) 0 f.n :: []] 88) := by
        rw [List.getElem?_set_ne (by omega), hI.sea]; simp [sea]
      have hb2 : (H'.set (H.length + 2) .dead)[H'.length - 1]? = some (.cells ((setsUp f l f.n).map Sp.cs) 23) := by rw [List.getElem?_set_ne (by omega)]; exact hset
      have hlk : ((setsUp f l f.n).map Sp.cs).length = f.n := by simp [setsUp]
      have hV1 := Vs.freezeIn (H0 := H) (a := .tup [.mptr H.length 0 0, iv 0]) (by omega) hs2 hb2 (by omega)
      rw [List.take_of_length_le (by omega)] at hV1
      have hsplit := heapSplit (H := H) (K := ((H'.set (H.length + 2) .dead).set (H'.length - 1) .dead).set H.length (.cells [f.cs ++ [.rsl (l.map Seen.cs) ex] ++ .rsl ((setsUp f l f.n).map Sp.cs) false :: []] 88))
        (S := sea f (.rsl (l.map Seen.cs) ex) (.rsl ((setsUp f l f.n).map Sp.cs) false)) (fun i hi => by
          rw [List.getElem?_set_ne (by omega), List.getElem?_set_ne (by omega), List.getElem?_set_ne (by omega)]; exact hI.old i hi) (by rw [List.getElem?_set_self (by simp; omega)]; simp [sea])
      rw [hsplit] at hV1
      refine bodyQ_mk (vs := [.mptr H.length 0 0, iv 0]) (.inr rfl) (by rw [Try.results51]; simp only [go_sem, ↓reduceIte, Nat.reduceEqDiff, Nat.reduceBEq, Nat.reduceAdd, Nat.reduceLeDiff, Nat.reduceMul, Nat.reduceLT, Int.reduceToNat, reduceCtorEq, Int.reduceBEq, Int.reduceBNe, Int.reduceLT, Int.reduceLE, Int.reduceGT, Int.reduceGE]) (hV1.trans (Vs.dropTo (by simp) (bel_append fun c hc => ?_) ?_)) ⟨rfl, rfl⟩
      · simp only [List.mem_singleton] at hc
        subst hc
        refine BelO_cells ?_
        simp [Fd.cs, Bel_val, Bel_iff_rsl, Seen.cs, Sp.cs]
      · simp [Bel_iff_tup, Bel_iff_mptr, Bel_val]
    · exact h.elim

end Go.Proofs.Ytehagceghnjamaa.Ab
