/- Cables: what is granted. -/
import Derived.Test.YtphfdbmbdaninaaUN
import Derived.Test.YtphfdbmbdaninaaUI
import Derived.Test.YtphfdbmbdaninaaM8
import Derived.Test.YtphfdbmbdaninaaKD
namespace Go.Proofs.Ytphfdbmbdaninaa.Ab
open Go Go.RowKit Go.Proofs
set_option linter.unusedSimpArgs false
set_option linter.unusedVariables false
attribute [local irreducible] Awp wpO thenQ blockQ bodyQ ACalls stepA

def RowAt (lo : Nat) (K : Hp) (a : AV) (n : Nat) (ob : AObj) : Prop := ∃ b, lo ≤ b ∧ a = .msl b 0 n ∧ K[b]? = some ob
def PtrAt (lo : Nat) (K : Hp) (a : AV) (ob : AObj) : Prop := ∃ b, lo ≤ b ∧ a = .mptr b 0 0 ∧ K[b]? = some ob
theorem RowAt.app {lo : Nat} {K : Hp} {a : AV} {n : Nat} {ob : AObj} (h : RowAt lo K a n ob) (X : Hp) : RowAt lo (K ++ X) a n ob := let ⟨b, h1, h2, h3⟩ := h; ⟨b, h1, h2, (held h3).2.1 X⟩
theorem PtrAt.app {lo : Nat} {K : Hp} {a : AV} {ob : AObj} (h : PtrAt lo K a ob) (X : Hp) : PtrAt lo (K ++ X) a ob := let ⟨b, h1, h2, h3⟩ := h; ⟨b, h1, h2, (held h3).2.1 X⟩
theorem RowAt.new {lo : Nat} {K : Hp} (h : lo ≤ K.length) (n : Nat) (ob : AObj) : RowAt lo (K ++ [ob]) (.msl K.length 0 n) n ob := ⟨_, h, rfl, get_new _ _⟩
theorem PtrAt.new {lo : Nat} {K : Hp} (h : lo ≤ K.length) (ob : AObj) : PtrAt lo (K ++ [ob]) (.mptr K.length 0 0) ob := ⟨_, h, rfl, get_new _ _⟩
theorem RowAt.ne {lo : Nat} {K : Hp} {a : AV} {n : Nat} {ob : AObj} (h : RowAt lo K a n ob) (m : Nat) : a ≠ .msl K.length 0 m := by
  obtain ⟨b, h1, rfl, h3⟩ := h
  intro e
  injection e with e1
  have := (List.getElem?_eq_some_iff.1 h3).1
  omega
theorem RowAt.set {lo : Nat} {K : Hp} {a : AV} {n s : Nat} {ob ob' : AObj} (h : RowAt lo K a n ob) (hs : K[s]? = some ob') (hne : ob ≠ ob') (c : AObj) : RowAt lo (K.set s c) a n ob := by
  obtain ⟨b, h1, h2, h3⟩ := h
  refine ⟨b, h1, h2, ?_⟩
  rw [List.getElem?_set_ne]
  · exact h3
  · rintro rfl; rw [hs] at h3; exact hne (by simpa using h3.symm)
/-- a row of numbers -/
def rwN (n : Nat) (f : Nat → Int) : List (List AV) := (List.range n).map fun j => [iv (f j)]
theorem rwN_len (n : Nat) (f : Nat → Int) : (rwN n f).length = n := by simp [rwN]
theorem rwN_at {n i : Nat} (h : i < n) (f : Nat → Int) : (rwN n f)[i]? = some [iv (f i)] := by simp [rwN, h]
theorem rwN_set {n i : Nat} (h : i < n) (f : Nat → Int) (v : Int) : (rwN n f).set i [iv v] = rwN n (fun j => if j = i then v else f j) := by
  refine List.ext_getElem (by simp [rwN]) fun j h1 h2 => ?_
  rw [List.getElem_set]
  by_cases e : i = j
  · subst e; simp [rwN]
  · rw [if_neg e]; simp [rwN, Ne.symm e]
theorem rwN_congr {n : Nat} {f g : Nat → Int} (h : ∀ i, i < n → f i = g i) : rwN n f = rwN n g := by
  unfold rwN
  refine List.map_congr_left fun i hi => ?_
  rw [h i (by simpa using hi)]
theorem rwN_ints (g : List Int) : ints g = rwN g.length (gA g) := by
  refine List.ext_getElem (by simp [rwN, ints]) fun j h1 h2 => ?_
  rw [ints_len] at h1
  simp [rwN, ints, gA, h1]
theorem rwN_rep (n : Nat) : List.replicate n [iv 0] = rwN n fun _ => 0 := by
  refine List.ext_getElem (by simp [rwN]) fun j h1 h2 => ?_
  simp [rwN]
theorem plainRwN (n : Nat) (f : Nat → Int) : Plain (rwN n f) := by
  unfold rwN
  intro e he a ha
  obtain ⟨x, _, rfl⟩ := List.mem_map.1 he
  simp at ha; exact ⟨_, ha⟩

/-- two rows, and a box for the second one -/
structure Inv9 (H : Hp) (c : Cb) (n : Nat) (sl : Env → Prop) (L : Nat → Bool) (T : Env) (K : Hp) : Prop where
  sl : sl T
  gr : Grow H K
  i0 : L 0 = true → T 40 = .rptr c.cs 2
  i1 : L 1 = true → T 41 = .rsl (c.l.map Nd.cs) c.ex
  i2 : L 2 = true → T 42 = iv n
  i4 : L 4 = true → T 44 = .rptr c.cs 2
  i5 : L 5 = true → T 45 = .rsl (c.l.map Nd.cs) c.ex
  i6 : L 6 = true → T 46 = iv n
  i3 : L 3 = true → RowAt H.length K (T 43) n (.cells (List.replicate n [iv 0]) 2)
  i7 : L 7 = true → RowAt H.length K (T 47) n (.cells (List.replicate n [iv 0]) 2)
  i8 : L 8 = true → PtrAt H.length K (T 12) (.cells [[if L 10 = true then T 47 else nilS]] 34)
  i9 : L 9 = true → T 11 = T 43
  ne : L 3 = true → L 7 = true → T 43 ≠ T 47
  j9 : L 9 = true → L 3 = true
  j10 : L 10 = true → L 7 = true ∧ L 8 = true

set_option maxRecDepth 8000 in
set_option maxHeartbeats 8000000 in
theorem Share_ok (H : Hp) (c : Cb) (hL : ¬ c.long) (req r : List Int) (exq exr : Bool) (hm : req.length ≤ maxLen) (hm2 : r.length ≤ maxLen) :
    CallsTo Try.prog 61 [.agg c.cs, .rsl (ints req) exq, .rsl (ints r) exr] H (.tup [.rsl (ints (shrV c req r)) false, iv (shrE c req r)]) H := by
  have hvl := ints_len req
  have hrl := ints_len r
  have hcl : (c.l.map Nd.cs).length = c.l.length := by simp
  unfold shrV
  by_cases h : c.code = 0
  · have hg := good_of hL h
    obtain ⟨h1, h20, hs, hn⟩ := hg.h
    have hnm : c.l.length ≤ maxLen := by simp only [maxLen]; omega
    have ho := fun H => open_ok H c hg
    by_cases hr : r.length = c.l.length
    · have hE : shrE c req r = ampE c.l req := by unfold shrE; rw [if_neg (fun n => n h), if_neg (fun n => n hr)]
      have hca := fun H => checkAmps_ok H c req exq hm
      rw [hE]
      by_cases hE0 : ampE c.l req = 0
      · rw [if_pos hE0, hE0]
        rw [hE0] at hca
        have hlen : req.length = c.l.length := by
          unfold ampE at hE0
          by_cases e : req.length = c.l.length
          · exact e
          · rw [if_pos e] at hE0; simp at hE0
        have hin : ∀ x ∈ req, 0 ≤ x ∧ x ≤ 65536 := by
          refine amB_in fun k => ?_
          unfold ampE at hE0
          rw [if_neg (fun n => n hlen), if_pos k] at hE0; simp at hE0
        have n0 : (0 : Int) ≤ (c.l.length : Int) := by omega
        have n2 : (8 : Int) * (c.l.length : Int) ≤ 281474976710656 := by omega
        have n1 : ((8 : Nat) : Int) * (c.l.length : Int) ≤ 281474976710656 := by omega
        have n3 : (c.l.length : Int) ≤ 9223372036854775807 := by omega
        have ho' := ho
        simp only [treeV, Cb.cs, List.cons_append, List.nil_append] at ho hca
        refine ACalls.of_body Try.func61 rfl (by kernel_rfl) (by rw [Try.ntmps61]; simp) ?_; rw [Try.ntmps61]
        repeat' ((fail_if_success (apply stopR (id := 9))); (fail_if_success (apply stopS (id := 9))); first | refine spD (fun _ => ?_) (fun _ => ?_) | refine spF (fun _ => ?_) (fun _ => ?_) | (apply gT; (exact rfl)) | (apply off; (exact rfl); (exact rfl)) | (apply condT; (exact rfl)) | (apply condF; (exact rfl)) | ((first | (apply stp0; (exact rfl); (exact rfl)) | (apply stpN0; (exact rfl)) | apply gT | apply condT | ((first | apply bodyQ_d0 | apply bodyQ_d1 | apply bodyQ_d2 | apply bodyQ_d3 | apply bodyQ_d4); (exact .inr rfl); (rw [Try.results61]))); (first | (focus (simp only [go_sem, ↓reduceIte, Nat.reduceEqDiff, Nat.reduceBEq, Nat.reduceAdd, Nat.reduceLeDiff, Nat.reduceMul, Nat.reduceLT, Int.reduceToNat, reduceCtorEq, Int.reduceBEq, Int.reduceBNe, Int.reduceLT, Int.reduceLE, Int.reduceGT, Int.reduceGE, Cb.cs, hvl, hrl, hr, hcl, and_self] <;> rfl)) | exact rfl); (first | (fail_if_success (show okD _ _ _ _ _ _ _ _ _)) | (first | exact okT | exact okN | exact okE rfl)); (first | (fail_if_success (show Bel _ _)) | (focus first | exact .val _ | (simp [oneOf, Bel_iff_tup, Bel_iff_agg, Bel_iff_rsl, Bel_iff_fn, Bel_iff_rptr, Bel_val]; done)))) | (apply calTo0; (exact rfl); (iterate 2 (simp only [go_sem, ↓reduceIte, Nat.reduceEqDiff, Nat.reduceBEq, Nat.reduceAdd, Nat.reduceLeDiff, Nat.reduceMul, Nat.reduceLT, Int.reduceToNat, reduceCtorEq, Int.reduceBEq, Int.reduceBNe, Int.reduceLT, Int.reduceLE, Int.reduceGT, Int.reduceGE, Cb.cs, hvl, hrl, hr, hcl, and_self]; rfl)); (first | exact ho _ | exact hca _); (first | exact okT | exact okN | exact okE rfl)) | refine thenQ_n ?_ | refine thenQ_r ?_ | refine thenQ_e ?_ | refine blockQ_n ?_ | refine blockQ_r ?_ | refine blockQ_e ?_ | (apply blockQ_o; (exact rfl)) | refine Awp.seq ?_ | refine Awp.skip ?_ | refine Awp.block ?_ | refine reg (fun s => s == 12 || s == 14 || s == 17) ?_ | (apply drwE mixed (fun s => s == 12 || s == 14 || s == 17); (kernel_rfl)) | refine fin ?_ | refine Awp.ret ?_ | refine Awp.exit ?_ | ((first | (apply off; (exact rfl)) | apply condF); (first | (focus (simp only [go_sem, ↓reduceIte, Nat.reduceEqDiff, Nat.reduceBEq, Nat.reduceAdd, Nat.reduceLeDiff, Nat.reduceMul, Nat.reduceLT, Int.reduceToNat, reduceCtorEq, Int.reduceBEq, Int.reduceBNe, Int.reduceLT, Int.reduceLE, Int.reduceGT, Int.reduceGE, Cb.cs, hvl, hrl, hr, hcl, and_self] <;> rfl)) | exact rfl)))
        all_goals first | contradiction | (exfalso; omega) | skip
        refine Awp.withT (fun T' => T' 1 = .rsl (ints req) exq ∧ T' 3 = .rptr c.cs 0 ∧ T' 5 = .rptr [.rsl (ints r) exr] 0 ∧ T' 8 = treeV c) ⟨?_, ?_, ?_, ?_⟩ ?_
        · (first | (focus (simp only [go_sem, ↓reduceIte, Nat.reduceEqDiff, Nat.reduceBEq, Nat.reduceAdd, Nat.reduceLeDiff, Nat.reduceMul, Nat.reduceLT, Int.reduceToNat, reduceCtorEq, Int.reduceBEq, Int.reduceBNe, Int.reduceLT, Int.reduceLE, Int.reduceGT, Int.reduceGE]; done)) | (focus (simp only [go_sem, ↓reduceIte, Nat.reduceEqDiff, Nat.reduceBEq, Nat.reduceAdd, Nat.reduceLeDiff, Nat.reduceMul, Nat.reduceLT, Int.reduceToNat, reduceCtorEq, Int.reduceBEq, Int.reduceBNe, Int.reduceLT, Int.reduceLE, Int.reduceGT, Int.reduceGE]; rfl)) | rfl)
        · (first | (focus (simp only [go_sem, ↓reduceIte, Nat.reduceEqDiff, Nat.reduceBEq, Nat.reduceAdd, Nat.reduceLeDiff, Nat.reduceMul, Nat.reduceLT, Int.reduceToNat, reduceCtorEq, Int.reduceBEq, Int.reduceBNe, Int.reduceLT, Int.reduceLE, Int.reduceGT, Int.reduceGE, Cb.cs]; done)) | (focus (simp only [go_sem, ↓reduceIte, Nat.reduceEqDiff, Nat.reduceBEq, Nat.reduceAdd, Nat.reduceLeDiff, Nat.reduceMul, Nat.reduceLT, Int.reduceToNat, reduceCtorEq, Int.reduceBEq, Int.reduceBNe, Int.reduceLT, Int.reduceLE, Int.reduceGT, Int.reduceGE, Cb.cs]; rfl)) | rfl)
        · (first | (focus (simp only [go_sem, ↓reduceIte, Nat.reduceEqDiff, Nat.reduceBEq, Nat.reduceAdd, Nat.reduceLeDiff, Nat.reduceMul, Nat.reduceLT, Int.reduceToNat, reduceCtorEq, Int.reduceBEq, Int.reduceBNe, Int.reduceLT, Int.reduceLE, Int.reduceGT, Int.reduceGE]; done)) | (focus (simp only [go_sem, ↓reduceIte, Nat.reduceEqDiff, Nat.reduceBEq, Nat.reduceAdd, Nat.reduceLeDiff, Nat.reduceMul, Nat.reduceLT, Int.reduceToNat, reduceCtorEq, Int.reduceBEq, Int.reduceBNe, Int.reduceLT, Int.reduceLE, Int.reduceGT, Int.reduceGE]; rfl)) | rfl)
        · (first | (focus (simp only [go_sem, ↓reduceIte, Nat.reduceEqDiff, Nat.reduceBEq, Nat.reduceAdd, Nat.reduceLeDiff, Nat.reduceMul, Nat.reduceLT, Int.reduceToNat, reduceCtorEq, Int.reduceBEq, Int.reduceBNe, Int.reduceLT, Int.reduceLE, Int.reduceGT, Int.reduceGE, treeV, Cb.cs, List.cons_append, List.nil_append]; done)) | (focus (simp only [go_sem, ↓reduceIte, Nat.reduceEqDiff, Nat.reduceBEq, Nat.reduceAdd, Nat.reduceLeDiff, Nat.reduceMul, Nat.reduceLT, Int.reduceToNat, reduceCtorEq, Int.reduceBEq, Int.reduceBNe, Int.reduceLT, Int.reduceLE, Int.reduceGT, Int.reduceGE, treeV, Cb.cs, List.cons_append, List.nil_append]; rfl)) | rfl)
        rintro T hT
        refine Awp.seq (Awp.mono (Q := fun e T' K => e = .normal ∧ ∃ L, (∀ i, i < 11 → L i = true) ∧ Inv9 H c c.l.length (fun T' => T' 1 = .rsl (ints req) exq ∧ T' 3 = .rptr c.cs 0 ∧ T' 5 = .rptr [.rsl (ints r) exr] 0 ∧ T' 8 = treeV c) L T' K) ?_ ?_)
        · refine Awp.anyInv mixed (fun s => s == 12 || s == 14 || s == 17) (Inv9 H c c.l.length (fun T' => T' 1 = .rsl (ints req) exq ∧ T' 3 = .rptr c.cs 0 ∧ T' 5 = .rptr [.rsl (ints r) exr] 0 ∧ T' 8 = treeV c)) (by kernel_rfl) ?_ ?_ (fun L T H hL hI => ⟨rfl, L, hL, hI⟩)
          · exact ⟨hT, Grow.refl _, by simp, by simp, by simp, by simp, by simp, by simp, by simp, by simp, by simp, by simp, by simp, by simp, by simp⟩
          simp only [AllIx]
          refine ⟨?_, ?_, ?_, ?_, ?_, ?_, ?_, ?_, ?_, ?_, ?_, trivial⟩
          all_goals
            intro L T K hL hp ⟨⟨t1, t3, t5, t8⟩, hG, i0, i1, i2, i4, i5, i6, i3, i7, i8, i9, ne, j9, j10⟩
            simp [Region.binds] at hp
          · refine ⟨_, _, (by unfold PerfTo; simp only [callOf]; simp only [go_sem, ↓reduceIte, Nat.reduceEqDiff, Nat.reduceBEq, Nat.reduceAdd, Nat.reduceLeDiff, Nat.reduceMul, Nat.reduceLT, Int.reduceToNat, reduceCtorEq, Int.reduceBEq, Int.reduceBNe, Int.reduceLT, Int.reduceLE, Int.reduceGT, Int.reduceGE, t1, t3, t5, t8, Cb.cs]; rfl), ?_⟩
            constructor <;> simp_all [setL, putA, upd, Cb.cs]
          · have k0 := i0 (by simp [hp])
            refine ⟨_, _, (by unfold PerfTo; simp only [callOf]; simp only [go_sem, ↓reduceIte, Nat.reduceEqDiff, Nat.reduceBEq, Nat.reduceAdd, Nat.reduceLeDiff, Nat.reduceMul, Nat.reduceLT, Int.reduceToNat, reduceCtorEq, Int.reduceBEq, Int.reduceBNe, Int.reduceLT, Int.reduceLE, Int.reduceGT, Int.reduceGE, k0, Cb.cs]; rfl), ?_⟩
            constructor <;> simp_all [setL, putA, upd, Cb.cs]
          · have k1 := i1 (by simp [hp])
            refine ⟨_, _, (by unfold PerfTo; simp only [callOf]; simp only [go_sem, ↓reduceIte, Nat.reduceEqDiff, Nat.reduceBEq, Nat.reduceAdd, Nat.reduceLeDiff, Nat.reduceMul, Nat.reduceLT, Int.reduceToNat, reduceCtorEq, Int.reduceBEq, Int.reduceBNe, Int.reduceLT, Int.reduceLE, Int.reduceGT, Int.reduceGE, k1, hcl]; rfl), ?_⟩
            constructor <;> simp_all [setL, putA, upd, Cb.cs]
          · have k2 := i2 (by simp [hp])
            refine ⟨_, _, (by unfold PerfTo; simp only [callOf]; simp only [go_sem, ↓reduceIte, Nat.reduceEqDiff, Nat.reduceBEq, Nat.reduceAdd, Nat.reduceLeDiff, Nat.reduceMul, Nat.reduceLT, Int.reduceToNat, reduceCtorEq, Int.reduceBEq, Int.reduceBNe, Int.reduceLT, Int.reduceLE, Int.reduceGT, Int.reduceGE, k2, n0, n1, n2, n3, and_self]; rfl), ?_⟩
            have k7 : L 7 = true → T 47 ≠ .msl K.length 0 c.l.length := fun h => (i7 h).ne _
            constructor
            · simp_all [setL, putA, upd]
            · exact hG.app _
            · simp_all [setL, putA, upd]
            · simp_all [setL, putA, upd]
            · simp_all [setL, putA, upd]
            · simp_all [setL, putA, upd]
            · simp_all [setL, putA, upd]
            · simp_all [setL, putA, upd]
            · intro _; simp only [putA, upd, if_true]; exact RowAt.new hG.len _ _
            · intro h; exact (i7 (by simpa [setL] using h)).app _
            · intro h; have := (i8 (by simpa [setL] using h)).app; simp_all [setL, putA, upd]
            · simp_all [setL, putA, upd]
            · intro _ h; have := k7 (by simpa [setL] using h); simp [putA, upd]; exact fun e => this e.symm
            · simp_all [setL, putA, upd]
            · simp_all [setL, putA, upd]
          · refine ⟨_, _, (by unfold PerfTo; simp only [callOf]; simp only [go_sem, ↓reduceIte, Nat.reduceEqDiff, Nat.reduceBEq, Nat.reduceAdd, Nat.reduceLeDiff, Nat.reduceMul, Nat.reduceLT, Int.reduceToNat, reduceCtorEq, Int.reduceBEq, Int.reduceBNe, Int.reduceLT, Int.reduceLE, Int.reduceGT, Int.reduceGE, t1, t3, t5, t8, Cb.cs]; rfl), ?_⟩
            constructor <;> simp_all [setL, putA, upd, Cb.cs]
          · have k4 := i4 (by simp [hp])
            refine ⟨_, _, (by unfold PerfTo; simp only [callOf]; simp only [go_sem, ↓reduceIte, Nat.reduceEqDiff, Nat.reduceBEq, Nat.reduceAdd, Nat.reduceLeDiff, Nat.reduceMul, Nat.reduceLT, Int.reduceToNat, reduceCtorEq, Int.reduceBEq, Int.reduceBNe, Int.reduceLT, Int.reduceLE, Int.reduceGT, Int.reduceGE, k4, Cb.cs]; rfl), ?_⟩
            constructor <;> simp_all [setL, putA, upd, Cb.cs]
          · have k5 := i5 (by simp [hp])
            refine ⟨_, _, (by unfold PerfTo; simp only [callOf]; simp only [go_sem, ↓reduceIte, Nat.reduceEqDiff, Nat.reduceBEq, Nat.reduceAdd, Nat.reduceLeDiff, Nat.reduceMul, Nat.reduceLT, Int.reduceToNat, reduceCtorEq, Int.reduceBEq, Int.reduceBNe, Int.reduceLT, Int.reduceLE, Int.reduceGT, Int.reduceGE, k5, hcl]; rfl), ?_⟩
            constructor <;> simp_all [setL, putA, upd, Cb.cs]
          · have k6 := i6 (by simp [hp])
            refine ⟨_, _, (by unfold PerfTo; simp only [callOf]; simp only [go_sem, ↓reduceIte, Nat.reduceEqDiff, Nat.reduceBEq, Nat.reduceAdd, Nat.reduceLeDiff, Nat.reduceMul, Nat.reduceLT, Int.reduceToNat, reduceCtorEq, Int.reduceBEq, Int.reduceBNe, Int.reduceLT, Int.reduceLE, Int.reduceGT, Int.reduceGE, k6, n0, n1, n2, n3, and_self]; rfl), ?_⟩
            have k3 : L 3 = true → T 43 ≠ .msl K.length 0 c.l.length := fun h => (i3 h).ne _
            constructor
            · simp_all [setL, putA, upd]
            · exact hG.app _
            · simp_all [setL, putA, upd]
            · simp_all [setL, putA, upd]
            · simp_all [setL, putA, upd]
            · simp_all [setL, putA, upd]
            · simp_all [setL, putA, upd]
            · simp_all [setL, putA, upd]
            · intro h; exact (i3 (by simpa [setL] using h)).app _
            · intro _; simp only [putA, upd, if_true]; exact RowAt.new hG.len _ _
            · intro h; have := (i8 (by simpa [setL] using h)).app; simp_all [setL, putA, upd]
            · simp_all [setL, putA, upd]
            · intro h _; have := k3 (by simpa [setL] using h); simp [putA, upd]; exact this
            · simp_all [setL, putA, upd]
            · simp_all [setL, putA, upd]
          · refine ⟨_, _, (by unfold PerfTo; simp only [callOf]; simp only [go_sem, ↓reduceIte, Nat.reduceEqDiff, Nat.reduceBEq, Nat.reduceAdd, Nat.reduceLeDiff, Nat.reduceMul, Nat.reduceLT, Int.reduceToNat, reduceCtorEq, Int.reduceBEq, Int.reduceBNe, Int.reduceLT, Int.reduceLE, Int.reduceGT, Int.reduceGE]; rfl), ?_⟩
            constructor
            · simp_all [setL, putA, upd]
            · exact hG.app _
            · simp_all [setL, putA, upd]
            · simp_all [setL, putA, upd]
            · simp_all [setL, putA, upd]
            · simp_all [setL, putA, upd]
            · simp_all [setL, putA, upd]
            · simp_all [setL, putA, upd]
            · intro h; exact (i3 (by simpa [setL] using h)).app _
            · intro h; exact (i7 (by simpa [setL] using h)).app _
            · intro _
              have e : L 10 = false := by cases k : L 10 with | false => rfl | true => simp_all
              simp [setL, putA, upd, e]; exact PtrAt.new hG.len _
            · simp_all [setL, putA, upd]
            · simp_all [setL, putA, upd]
            · simp_all [setL, putA, upd]
            · simp_all [setL, putA, upd]
          · refine ⟨_, _, (by unfold PerfTo; simp only [callOf]; simp only [go_sem, ↓reduceIte, Nat.reduceEqDiff, Nat.reduceBEq, Nat.reduceAdd, Nat.reduceLeDiff, Nat.reduceMul, Nat.reduceLT, Int.reduceToNat, reduceCtorEq, Int.reduceBEq, Int.reduceBNe, Int.reduceLT, Int.reduceLE, Int.reduceGT, Int.reduceGE]; rfl), ?_⟩
            constructor <;> simp_all [setL, putA, upd, Cb.cs]
          · obtain ⟨b, hb, hT12, hK⟩ := i8 (by simp [hp])
            have e : L 10 = false := hL
            simp only [e, Bool.false_eq_true, if_false] at hK
            obtain ⟨b2, _, hT47, _⟩ := i7 (by simp [hp])
            have hne : AObj.cells (List.replicate c.l.length [iv 0]) 2 ≠ .cells [[nilS]] 34 := by simp
            refine ⟨_, _, (by unfold PerfTo; simp only [callOf]; simp only [go_sem, ↓reduceIte, Nat.reduceEqDiff, Nat.reduceBEq, Nat.reduceAdd, Nat.reduceLeDiff, Nat.reduceMul, Nat.reduceLT, Int.reduceToNat, reduceCtorEq, Int.reduceBEq, Int.reduceBNe, Int.reduceLT, Int.reduceLE, Int.reduceGT, Int.reduceGE, hT12, hT47, hK]; rfl), ?_⟩
            constructor
            · simp_all [setL, putA, upd]
            · exact hG.set hb _
            · simp_all [setL, putA, upd]
            · simp_all [setL, putA, upd]
            · simp_all [setL, putA, upd]
            · simp_all [setL, putA, upd]
            · simp_all [setL, putA, upd]
            · simp_all [setL, putA, upd]
            · intro h; exact (i3 (by simpa [setL] using h)).set hK hne _
            · intro h; exact (i7 (by simpa [setL] using h)).set hK hne _
            · intro _
              refine ⟨b, hb, hT12, ?_⟩
              rw [(heldS hK).1]
              simp [setL, putA, hT47]
            · simp_all [setL, putA, upd]
            · simp_all [setL, putA, upd]
            · simp_all [setL, putA, upd]
            · simp_all [setL, putA, upd]
        · rintro e T1 K ⟨rfl, L, hLL, hI⟩
          obtain ⟨bg, hbg, t11, kg⟩ : RowAt H.length K (T1 11) c.l.length (.cells (List.replicate c.l.length [iv 0]) 2) := by rw [hI.i9 (hLL 9 (by omega))]; exact hI.i3 (hLL 3 (by omega))
          obtain ⟨bl, hbl, t47, kl⟩ := hI.i7 (hLL 7 (by omega))
          obtain ⟨bx, hbx, t12, kx⟩ := hI.i8 (hLL 8 (by omega))
          rw [hLL 10 (by omega), if_pos rfl, t47] at kx
          have hgl : bg ≠ bl := by
            rintro rfl
            refine hI.ne (hLL 3 (by omega)) (hLL 7 (by omega)) ?_
            rw [← hI.i9 (hLL 9 (by omega)), t11, t47]
          have hne : AObj.cells (List.replicate c.l.length [iv 0]) 2 ≠ .cells [[.msl bl 0 c.l.length]] 34 := by simp
          have hgx : bg ≠ bx := by rintro rfl; rw [kg] at kx; simp at kx
          have hlx : bl ≠ bx := by rintro rfl; rw [kl] at kx; simp at kx
          have hG := hI.gr
          obtain ⟨t1, t3, t5, t8⟩ := hI.sl
          have e0 : List.replicate c.l.length [iv 0] = ints (shrG c.l req []) := by simp [shrG, ints]
          rw [e0] at kg
          rw [rwN_rep] at kl
          clear hI hLL hne t47 e0 hT
          simp only [thenQ]
          repeat' (first | refine spD (fun _ => ?_) (fun _ => ?_) | refine spF (fun _ => ?_) (fun _ => ?_) | (apply gT; (exact rfl)) | (apply off; (exact rfl); (exact rfl)) | (apply condT; (exact rfl)) | (apply condF; (exact rfl)) | ((first | (apply stp0; (exact rfl); (exact rfl)) | (apply stpN0; (exact rfl)) | apply gT | apply condT | ((first | apply bodyQ_d0 | apply bodyQ_d1 | apply bodyQ_d2 | apply bodyQ_d3 | apply bodyQ_d4); (exact .inr rfl); (rw [Try.results61]))); (first | (focus (simp only [go_sem, ↓reduceIte, Nat.reduceEqDiff, Nat.reduceBEq, Nat.reduceAdd, Nat.reduceLeDiff, Nat.reduceMul, Nat.reduceLT, Int.reduceToNat, reduceCtorEq, Int.reduceBEq, Int.reduceBNe, Int.reduceLT, Int.reduceLE, Int.reduceGT, Int.reduceGE, t1, t3, t5, t8, t11, t12, Cb.cs, hcl] <;> rfl)) | exact rfl); (first | (fail_if_success (show okD _ _ _ _ _ _ _ _ _)) | (first | exact okT | exact okN | exact okE rfl)); (first | (fail_if_success (show Bel _ _)) | (focus first | exact .val _ | (simp [oneOf, Bel_iff_tup, Bel_iff_agg, Bel_iff_rsl, Bel_iff_fn, Bel_iff_rptr, Bel_val]; done)))) | refine thenQ_n ?_ | refine thenQ_r ?_ | refine thenQ_e ?_ | refine blockQ_n ?_ | refine blockQ_r ?_ | refine blockQ_e ?_ | (apply blockQ_o; (exact rfl)) | refine Awp.seq ?_ | refine Awp.skip ?_ | refine Awp.block ?_ | refine reg (fun s => s == 12 || s == 14 || s == 17) ?_ | (apply drwE mixed (fun s => s == 12 || s == 14 || s == 17); (kernel_rfl)) | refine fin ?_ | refine Awp.ret ?_ | refine Awp.exit ?_ | ((first | (apply off; (exact rfl)) | apply condF); (first | (focus (simp only [go_sem, ↓reduceIte, Nat.reduceEqDiff, Nat.reduceBEq, Nat.reduceAdd, Nat.reduceLeDiff, Nat.reduceMul, Nat.reduceLT, Int.reduceToNat, reduceCtorEq, Int.reduceBEq, Int.reduceBNe, Int.reduceLT, Int.reduceLE, Int.reduceGT, Int.reduceGE, t1, t3, t5, t8, t11, t12, Cb.cs, hcl] <;> rfl)) | exact rfl)))
          all_goals first | contradiction | (exfalso; omega) | skip
          refine Awp.loop (ι := Nat) (fun i T' K => i ≤ c.l.length ∧ T' 51 = iv i ∧ T' 50 = iv c.l.length ∧ T' 49 = .rsl (c.l.map Nd.cs) c.ex ∧ (T' 1 = .rsl (ints req) exq ∧ T' 3 = .rptr c.cs 0 ∧ T' 5 = .rptr [.rsl (ints r) exr] 0 ∧ T' 8 = treeV c ∧ T' 11 = .msl bg 0 c.l.length ∧ T' 12 = .mptr bx 0 0) ∧
            Grow H K ∧ K[bg]? = some (.cells (ints (shrG c.l req [])) 2) ∧ K[bl]? = some (.cells (rwN c.l.length fun j => if j < i then limA c.l j else 0) 2) ∧ K[bx]? = some (.cells [[.msl bl 0 c.l.length]] 34)) (fun i => c.l.length - i) 0 ?_ ?_
          · refine ⟨by omega, ?_, ?_, ?_, ⟨?_, ?_, ?_, ?_, ?_, ?_⟩, hG, kg, ?_, kx⟩
            · (first | (focus (simp only [go_sem, ↓reduceIte, Nat.reduceEqDiff, Nat.reduceBEq, Nat.reduceAdd, Nat.reduceLeDiff, Nat.reduceMul, Nat.reduceLT, Int.reduceToNat, reduceCtorEq, Int.reduceBEq, Int.reduceBNe, Int.reduceLT, Int.reduceLE, Int.reduceGT, Int.reduceGE]; done)) | (focus (simp only [go_sem, ↓reduceIte, Nat.reduceEqDiff, Nat.reduceBEq, Nat.reduceAdd, Nat.reduceLeDiff, Nat.reduceMul, Nat.reduceLT, Int.reduceToNat, reduceCtorEq, Int.reduceBEq, Int.reduceBNe, Int.reduceLT, Int.reduceLE, Int.reduceGT, Int.reduceGE]; rfl)) | rfl)
            · (first | (focus (simp only [go_sem, ↓reduceIte, Nat.reduceEqDiff, Nat.reduceBEq, Nat.reduceAdd, Nat.reduceLeDiff, Nat.reduceMul, Nat.reduceLT, Int.reduceToNat, reduceCtorEq, Int.reduceBEq, Int.reduceBNe, Int.reduceLT, Int.reduceLE, Int.reduceGT, Int.reduceGE, hcl]; done)) | (focus (simp only [go_sem, ↓reduceIte, Nat.reduceEqDiff, Nat.reduceBEq, Nat.reduceAdd, Nat.reduceLeDiff, Nat.reduceMul, Nat.reduceLT, Int.reduceToNat, reduceCtorEq, Int.reduceBEq, Int.reduceBNe, Int.reduceLT, Int.reduceLE, Int.reduceGT, Int.reduceGE, hcl]; rfl)) | rfl)
            · (first | (focus (simp only [go_sem, ↓reduceIte, Nat.reduceEqDiff, Nat.reduceBEq, Nat.reduceAdd, Nat.reduceLeDiff, Nat.reduceMul, Nat.reduceLT, Int.reduceToNat, reduceCtorEq, Int.reduceBEq, Int.reduceBNe, Int.reduceLT, Int.reduceLE, Int.reduceGT, Int.reduceGE]; done)) | (focus (simp only [go_sem, ↓reduceIte, Nat.reduceEqDiff, Nat.reduceBEq, Nat.reduceAdd, Nat.reduceLeDiff, Nat.reduceMul, Nat.reduceLT, Int.reduceToNat, reduceCtorEq, Int.reduceBEq, Int.reduceBNe, Int.reduceLT, Int.reduceLE, Int.reduceGT, Int.reduceGE]; rfl)) | rfl)
            · (first | (focus (simp only [go_sem, ↓reduceIte, Nat.reduceEqDiff, Nat.reduceBEq, Nat.reduceAdd, Nat.reduceLeDiff, Nat.reduceMul, Nat.reduceLT, Int.reduceToNat, reduceCtorEq, Int.reduceBEq, Int.reduceBNe, Int.reduceLT, Int.reduceLE, Int.reduceGT, Int.reduceGE, t1]; done)) | (focus (simp only [go_sem, ↓reduceIte, Nat.reduceEqDiff, Nat.reduceBEq, Nat.reduceAdd, Nat.reduceLeDiff, Nat.reduceMul, Nat.reduceLT, Int.reduceToNat, reduceCtorEq, Int.reduceBEq, Int.reduceBNe, Int.reduceLT, Int.reduceLE, Int.reduceGT, Int.reduceGE, t1]; rfl)) | rfl)
            · (first | (focus (simp only [go_sem, ↓reduceIte, Nat.reduceEqDiff, Nat.reduceBEq, Nat.reduceAdd, Nat.reduceLeDiff, Nat.reduceMul, Nat.reduceLT, Int.reduceToNat, reduceCtorEq, Int.reduceBEq, Int.reduceBNe, Int.reduceLT, Int.reduceLE, Int.reduceGT, Int.reduceGE, t3]; done)) | (focus (simp only [go_sem, ↓reduceIte, Nat.reduceEqDiff, Nat.reduceBEq, Nat.reduceAdd, Nat.reduceLeDiff, Nat.reduceMul, Nat.reduceLT, Int.reduceToNat, reduceCtorEq, Int.reduceBEq, Int.reduceBNe, Int.reduceLT, Int.reduceLE, Int.reduceGT, Int.reduceGE, t3]; rfl)) | rfl)
            · (first | (focus (simp only [go_sem, ↓reduceIte, Nat.reduceEqDiff, Nat.reduceBEq, Nat.reduceAdd, Nat.reduceLeDiff, Nat.reduceMul, Nat.reduceLT, Int.reduceToNat, reduceCtorEq, Int.reduceBEq, Int.reduceBNe, Int.reduceLT, Int.reduceLE, Int.reduceGT, Int.reduceGE, t5]; done)) | (focus (simp only [go_sem, ↓reduceIte, Nat.reduceEqDiff, Nat.reduceBEq, Nat.reduceAdd, Nat.reduceLeDiff, Nat.reduceMul, Nat.reduceLT, Int.reduceToNat, reduceCtorEq, Int.reduceBEq, Int.reduceBNe, Int.reduceLT, Int.reduceLE, Int.reduceGT, Int.reduceGE, t5]; rfl)) | rfl)
            · (first | (focus (simp only [go_sem, ↓reduceIte, Nat.reduceEqDiff, Nat.reduceBEq, Nat.reduceAdd, Nat.reduceLeDiff, Nat.reduceMul, Nat.reduceLT, Int.reduceToNat, reduceCtorEq, Int.reduceBEq, Int.reduceBNe, Int.reduceLT, Int.reduceLE, Int.reduceGT, Int.reduceGE, t8]; done)) | (focus (simp only [go_sem, ↓reduceIte, Nat.reduceEqDiff, Nat.reduceBEq, Nat.reduceAdd, Nat.reduceLeDiff, Nat.reduceMul, Nat.reduceLT, Int.reduceToNat, reduceCtorEq, Int.reduceBEq, Int.reduceBNe, Int.reduceLT, Int.reduceLE, Int.reduceGT, Int.reduceGE, t8]; rfl)) | rfl)
            · (first | (focus (simp only [go_sem, ↓reduceIte, Nat.reduceEqDiff, Nat.reduceBEq, Nat.reduceAdd, Nat.reduceLeDiff, Nat.reduceMul, Nat.reduceLT, Int.reduceToNat, reduceCtorEq, Int.reduceBEq, Int.reduceBNe, Int.reduceLT, Int.reduceLE, Int.reduceGT, Int.reduceGE, t11]; done)) | (focus (simp only [go_sem, ↓reduceIte, Nat.reduceEqDiff, Nat.reduceBEq, Nat.reduceAdd, Nat.reduceLeDiff, Nat.reduceMul, Nat.reduceLT, Int.reduceToNat, reduceCtorEq, Int.reduceBEq, Int.reduceBNe, Int.reduceLT, Int.reduceLE, Int.reduceGT, Int.reduceGE, t11]; rfl)) | rfl)
            · (first | (focus (simp only [go_sem, ↓reduceIte, Nat.reduceEqDiff, Nat.reduceBEq, Nat.reduceAdd, Nat.reduceLeDiff, Nat.reduceMul, Nat.reduceLT, Int.reduceToNat, reduceCtorEq, Int.reduceBEq, Int.reduceBNe, Int.reduceLT, Int.reduceLE, Int.reduceGT, Int.reduceGE, t12]; done)) | (focus (simp only [go_sem, ↓reduceIte, Nat.reduceEqDiff, Nat.reduceBEq, Nat.reduceAdd, Nat.reduceLeDiff, Nat.reduceMul, Nat.reduceLT, Int.reduceToNat, reduceCtorEq, Int.reduceBEq, Int.reduceBNe, Int.reduceLT, Int.reduceLE, Int.reduceGT, Int.reduceGE, t12]; rfl)) | rfl)
            · rw [kl]; rw [rwN_congr (f := fun _ => (0 : Int)) (g := fun j => if j < 0 then limA c.l j else 0)]; simp
          clear t1 t3 t5 t8 t11 t12 kg kl kx hG T1 K
          rintro i T1 K ⟨hi, t51, t50, t49, ⟨t1, t3, t5, t8, t11, t12⟩, hG, kg, kl, kx⟩
          by_cases hlt : i < c.l.length
          · obtain ⟨a, ha⟩ := nth hlt
            have hac := nthMap Nd.cs ha
            simp only [Nd.cs] at hac
            have hw := wsucc hlt hnm
            have hla := limA_at ha
            have hrow := rwN_at hlt (fun j => if j < i then limA c.l j else 0)
            have hrn := rwN_len c.l.length (fun j => if j < i then limA c.l j else 0)
            have hset := rwN_set hlt (fun j => if j < i then limA c.l j else 0) a.lim
            have hnx : rwN c.l.length (fun j => if j = i then a.lim else if j < i then limA c.l j else 0) = rwN c.l.length (fun j => if j < i + 1 then limA c.l j else 0) := by
              refine rwN_congr fun j _ => ?_
              by_cases e : j = i
              · subst e; rw [if_pos rfl, if_pos (by omega), hla]
              · rw [if_neg e]
                by_cases k : j < i
                · rw [if_pos k, if_pos (by omega)]
                · rw [if_neg k, if_neg (by omega)]
            have hkl := held kl
            have hkl2 := heldS kl
            have hkx := held kx
            repeat' (first | refine spD (fun _ => ?_) (fun _ => ?_) | refine spF (fun _ => ?_) (fun _ => ?_) | (apply gT; (exact rfl)) | (apply off; (exact rfl); (exact rfl)) | (apply condT; (exact rfl)) | (apply condF; (exact rfl)) | ((first | (apply stp0; (exact rfl); (exact rfl)) | (apply stpN0; (exact rfl)) | apply gT | apply condT | ((first | apply bodyQ_d0 | apply bodyQ_d1 | apply bodyQ_d2 | apply bodyQ_d3 | apply bodyQ_d4); (exact .inr rfl); (rw [Try.results61]))); (first | (focus (simp only [go_sem, ↓reduceIte, Nat.reduceEqDiff, Nat.reduceBEq, Nat.reduceAdd, Nat.reduceLeDiff, Nat.reduceMul, Nat.reduceLT, Int.reduceToNat, reduceCtorEq, Int.reduceBEq, Int.reduceBNe, Int.reduceLT, Int.reduceLE, Int.reduceGT, Int.reduceGE, t51, t50, t49, t1, t3, t5, t8, t11, t12, hac, hcl, hkl, hkl2, hkx, hrow, hrn, hlt, Nat.zero_add] <;> rfl)) | exact rfl); (first | (fail_if_success (show okD _ _ _ _ _ _ _ _ _)) | (first | exact okT | exact okN | exact okE rfl)); (first | (fail_if_success (show Bel _ _)) | (focus first | exact .val _ | (simp [oneOf, Bel_iff_tup, Bel_iff_agg, Bel_iff_rsl, Bel_iff_fn, Bel_iff_rptr, Bel_val]; done)))) | refine thenQ_n ?_ | refine thenQ_r ?_ | refine thenQ_e ?_ | refine blockQ_n ?_ | refine blockQ_r ?_ | refine blockQ_e ?_ | (apply blockQ_o; (exact rfl)) | refine Awp.seq ?_ | refine Awp.skip ?_ | refine Awp.block ?_ | refine reg (fun s => s == 12 || s == 14 || s == 17) ?_ | (apply drwE mixed (fun s => s == 12 || s == 14 || s == 17); (kernel_rfl)) | refine fin ?_ | refine Awp.ret ?_ | refine Awp.exit ?_ | ((first | (apply off; (exact rfl)) | apply condF); (first | (focus (simp only [go_sem, ↓reduceIte, Nat.reduceEqDiff, Nat.reduceBEq, Nat.reduceAdd, Nat.reduceLeDiff, Nat.reduceMul, Nat.reduceLT, Int.reduceToNat, reduceCtorEq, Int.reduceBEq, Int.reduceBNe, Int.reduceLT, Int.reduceLE, Int.reduceGT, Int.reduceGE, t51, t50, t49, t1, t3, t5, t8, t11, t12, hac, hcl, hkl, hkl2, hkx, hrow, hrn, hlt, Nat.zero_add] <;> rfl)) | exact rfl)))
            all_goals first | contradiction | (exfalso; omega) | skip
            rw [hset, hnx]
            refine ⟨i + 1, ⟨by omega, ?_, ?_, ?_, ⟨?_, ?_, ?_, ?_, ?_, ?_⟩, (hG.set hbl _).app _, ?_, ?_, ?_⟩, by omega⟩
            · (first | (focus (simp only [go_sem, ↓reduceIte, Nat.reduceEqDiff, Nat.reduceBEq, Nat.reduceAdd, Nat.reduceLeDiff, Nat.reduceMul, Nat.reduceLT, Int.reduceToNat, reduceCtorEq, Int.reduceBEq, Int.reduceBNe, Int.reduceLT, Int.reduceLE, Int.reduceGT, Int.reduceGE, hw]; done)) | (focus (simp only [go_sem, ↓reduceIte, Nat.reduceEqDiff, Nat.reduceBEq, Nat.reduceAdd, Nat.reduceLeDiff, Nat.reduceMul, Nat.reduceLT, Int.reduceToNat, reduceCtorEq, Int.reduceBEq, Int.reduceBNe, Int.reduceLT, Int.reduceLE, Int.reduceGT, Int.reduceGE, hw]; rfl)) | rfl)
            · (first | (focus (simp only [go_sem, ↓reduceIte, Nat.reduceEqDiff, Nat.reduceBEq, Nat.reduceAdd, Nat.reduceLeDiff, Nat.reduceMul, Nat.reduceLT, Int.reduceToNat, reduceCtorEq, Int.reduceBEq, Int.reduceBNe, Int.reduceLT, Int.reduceLE, Int.reduceGT, Int.reduceGE, t50]; done)) | (focus (simp only [go_sem, ↓reduceIte, Nat.reduceEqDiff, Nat.reduceBEq, Nat.reduceAdd, Nat.reduceLeDiff, Nat.reduceMul, Nat.reduceLT, Int.reduceToNat, reduceCtorEq, Int.reduceBEq, Int.reduceBNe, Int.reduceLT, Int.reduceLE, Int.reduceGT, Int.reduceGE, t50]; rfl)) | rfl)
            · (first | (focus (simp only [go_sem, ↓reduceIte, Nat.reduceEqDiff, Nat.reduceBEq, Nat.reduceAdd, Nat.reduceLeDiff, Nat.reduceMul, Nat.reduceLT, Int.reduceToNat, reduceCtorEq, Int.reduceBEq, Int.reduceBNe, Int.reduceLT, Int.reduceLE, Int.reduceGT, Int.reduceGE, t49]; done)) | (focus (simp only [go_sem, ↓reduceIte, Nat.reduceEqDiff, Nat.reduceBEq, Nat.reduceAdd, Nat.reduceLeDiff, Nat.reduceMul, Nat.reduceLT, Int.reduceToNat, reduceCtorEq, Int.reduceBEq, Int.reduceBNe, Int.reduceLT, Int.reduceLE, Int.reduceGT, Int.reduceGE, t49]; rfl)) | rfl)
            · (first | (focus (simp only [go_sem, ↓reduceIte, Nat.reduceEqDiff, Nat.reduceBEq, Nat.reduceAdd, Nat.reduceLeDiff, Nat.reduceMul, Nat.reduceLT, Int.reduceToNat, reduceCtorEq, Int.reduceBEq, Int.reduceBNe, Int.reduceLT, Int.reduceLE, Int.reduceGT, Int.reduceGE, t1]; done)) | (focus (simp only [go_sem, ↓reduceIte, Nat.reduceEqDiff, Nat.reduceBEq, Nat.reduceAdd, Nat.reduceLeDiff, Nat.reduceMul, Nat.reduceLT, Int.reduceToNat, reduceCtorEq, Int.reduceBEq, Int.reduceBNe, Int.reduceLT, Int.reduceLE, Int.reduceGT, Int.reduceGE, t1]; rfl)) | rfl)
            · (first | (focus (simp only [go_sem, ↓reduceIte, Nat.reduceEqDiff, Nat.reduceBEq, Nat.reduceAdd, Nat.reduceLeDiff, Nat.reduceMul, Nat.reduceLT, Int.reduceToNat, reduceCtorEq, Int.reduceBEq, Int.reduceBNe, Int.reduceLT, Int.reduceLE, Int.reduceGT, Int.reduceGE, t3]; done)) | (focus (simp only [go_sem, ↓reduceIte, Nat.reduceEqDiff, Nat.reduceBEq, Nat.reduceAdd, Nat.reduceLeDiff, Nat.reduceMul, Nat.reduceLT, Int.reduceToNat, reduceCtorEq, Int.reduceBEq, Int.reduceBNe, Int.reduceLT, Int.reduceLE, Int.reduceGT, Int.reduceGE, t3]; rfl)) | rfl)
            · (first | (focus (simp only [go_sem, ↓reduceIte, Nat.reduceEqDiff, Nat.reduceBEq, Nat.reduceAdd, Nat.reduceLeDiff, Nat.reduceMul, Nat.reduceLT, Int.reduceToNat, reduceCtorEq, Int.reduceBEq, Int.reduceBNe, Int.reduceLT, Int.reduceLE, Int.reduceGT, Int.reduceGE, t5]; done)) | (focus (simp only [go_sem, ↓reduceIte, Nat.reduceEqDiff, Nat.reduceBEq, Nat.reduceAdd, Nat.reduceLeDiff, Nat.reduceMul, Nat.reduceLT, Int.reduceToNat, reduceCtorEq, Int.reduceBEq, Int.reduceBNe, Int.reduceLT, Int.reduceLE, Int.reduceGT, Int.reduceGE, t5]; rfl)) | rfl)
            · (first | (focus (simp only [go_sem, ↓reduceIte, Nat.reduceEqDiff, Nat.reduceBEq, Nat.reduceAdd, Nat.reduceLeDiff, Nat.reduceMul, Nat.reduceLT, Int.reduceToNat, reduceCtorEq, Int.reduceBEq, Int.reduceBNe, Int.reduceLT, Int.reduceLE, Int.reduceGT, Int.reduceGE, t8]; done)) | (focus (simp only [go_sem, ↓reduceIte, Nat.reduceEqDiff, Nat.reduceBEq, Nat.reduceAdd, Nat.reduceLeDiff, Nat.reduceMul, Nat.reduceLT, Int.reduceToNat, reduceCtorEq, Int.reduceBEq, Int.reduceBNe, Int.reduceLT, Int.reduceLE, Int.reduceGT, Int.reduceGE, t8]; rfl)) | rfl)
            · (first | (focus (simp only [go_sem, ↓reduceIte, Nat.reduceEqDiff, Nat.reduceBEq, Nat.reduceAdd, Nat.reduceLeDiff, Nat.reduceMul, Nat.reduceLT, Int.reduceToNat, reduceCtorEq, Int.reduceBEq, Int.reduceBNe, Int.reduceLT, Int.reduceLE, Int.reduceGT, Int.reduceGE, t11]; done)) | (focus (simp only [go_sem, ↓reduceIte, Nat.reduceEqDiff, Nat.reduceBEq, Nat.reduceAdd, Nat.reduceLeDiff, Nat.reduceMul, Nat.reduceLT, Int.reduceToNat, reduceCtorEq, Int.reduceBEq, Int.reduceBNe, Int.reduceLT, Int.reduceLE, Int.reduceGT, Int.reduceGE, t11]; rfl)) | rfl)
            · (first | (focus (simp only [go_sem, ↓reduceIte, Nat.reduceEqDiff, Nat.reduceBEq, Nat.reduceAdd, Nat.reduceLeDiff, Nat.reduceMul, Nat.reduceLT, Int.reduceToNat, reduceCtorEq, Int.reduceBEq, Int.reduceBNe, Int.reduceLT, Int.reduceLE, Int.reduceGT, Int.reduceGE, t12]; done)) | (focus (simp only [go_sem, ↓reduceIte, Nat.reduceEqDiff, Nat.reduceBEq, Nat.reduceAdd, Nat.reduceLeDiff, Nat.reduceMul, Nat.reduceLT, Int.reduceToNat, reduceCtorEq, Int.reduceBEq, Int.reduceBNe, Int.reduceLT, Int.reduceLE, Int.reduceGT, Int.reduceGE, t12]; rfl)) | rfl)
            · exact (heldO (Ne.symm hgl) kg).2.1 _ _
            · exact (heldS kl).2.1 _ _
            · exact (heldO hlx kx).2.1 _ _
          · have hin2 : i = c.l.length := by omega
            subst hin2
            have hkl0 : rwN c.l.length (fun j => if j < c.l.length then limA c.l j else 0) = rwN c.l.length (room c.l (shrG c.l req [])) := rwN_congr fun i hi => by
              rw [if_pos hi]; exact (room_zero c.l i).symm
            rw [hkl0] at kl
            have hsr := fun H => sorted_ok H r exr (by omega) (by omega)
            rw [hr] at hsr
            have hol := ordL_len1 r c.l.length
            have hnol := nats_len (ordL r c.l.length)
            rw [hol] at hnol
            repeat' (first | refine spD (fun _ => ?_) (fun _ => ?_) | refine spF (fun _ => ?_) (fun _ => ?_) | (apply gT; (exact rfl)) | (apply off; (exact rfl); (exact rfl)) | (apply condT; (exact rfl)) | (apply condF; (exact rfl)) | ((first | (apply stp0; (exact rfl); (exact rfl)) | (apply stpN0; (exact rfl)) | apply gT | apply condT | ((first | apply bodyQ_d0 | apply bodyQ_d1 | apply bodyQ_d2 | apply bodyQ_d3 | apply bodyQ_d4); (exact .inr rfl); (rw [Try.results61]))); (first | (focus (simp only [go_sem, ↓reduceIte, Nat.reduceEqDiff, Nat.reduceBEq, Nat.reduceAdd, Nat.reduceLeDiff, Nat.reduceMul, Nat.reduceLT, Int.reduceToNat, reduceCtorEq, Int.reduceBEq, Int.reduceBNe, Int.reduceLT, Int.reduceLE, Int.reduceGT, Int.reduceGE, t51, t50, t49, t1, t3, t5, t8, t11, t12, hrl, hr, hnol] <;> rfl)) | exact rfl); (first | (fail_if_success (show okD _ _ _ _ _ _ _ _ _)) | (first | exact okT | exact okN | exact okE rfl)); (first | (fail_if_success (show Bel _ _)) | (focus first | exact .val _ | (simp [oneOf, Bel_iff_tup, Bel_iff_agg, Bel_iff_rsl, Bel_iff_fn, Bel_iff_rptr, Bel_val]; done)))) | (apply calTo0; (exact rfl); (iterate 2 (simp only [go_sem, ↓reduceIte, Nat.reduceEqDiff, Nat.reduceBEq, Nat.reduceAdd, Nat.reduceLeDiff, Nat.reduceMul, Nat.reduceLT, Int.reduceToNat, reduceCtorEq, Int.reduceBEq, Int.reduceBNe, Int.reduceLT, Int.reduceLE, Int.reduceGT, Int.reduceGE, t51, t50, t49, t1, t3, t5, t8, t11, t12, hrl, hr, hnol]; rfl)); (first | exact hsr _); (first | exact okT | exact okN | exact okE rfl)) | refine thenQ_n ?_ | refine thenQ_r ?_ | refine thenQ_e ?_ | refine blockQ_n ?_ | refine blockQ_r ?_ | refine blockQ_e ?_ | (apply blockQ_o; (exact rfl)) | refine Awp.seq ?_ | refine Awp.skip ?_ | refine Awp.block ?_ | refine reg (fun s => s == 12 || s == 14 || s == 17) ?_ | (apply drwE mixed (fun s => s == 12 || s == 14 || s == 17); (kernel_rfl)) | refine fin ?_ | refine Awp.ret ?_ | refine Awp.exit ?_ | ((first | (apply off; (exact rfl)) | apply condF); (first | (focus (simp only [go_sem, ↓reduceIte, Nat.reduceEqDiff, Nat.reduceBEq, Nat.reduceAdd, Nat.reduceLeDiff, Nat.reduceMul, Nat.reduceLT, Int.reduceToNat, reduceCtorEq, Int.reduceBEq, Int.reduceBNe, Int.reduceLT, Int.reduceLE, Int.reduceGT, Int.reduceGE, t51, t50, t49, t1, t3, t5, t8, t11, t12, hrl, hr, hnol] <;> rfl)) | exact rfl)))
            all_goals first | contradiction | (exfalso; omega) | skip
            refine Awp.loop (ι := Nat) (fun j T' K => j ≤ c.l.length ∧ T' 67 = iv j ∧ T' 66 = iv c.l.length ∧ T' 65 = .rsl (nats (ordL r c.l.length)) false ∧ (T' 1 = .rsl (ints req) exq ∧ T' 8 = treeV c ∧ T' 11 = .msl bg 0 c.l.length ∧ T' 12 = .mptr bx 0 0) ∧
              Grow H K ∧ K[bg]? = some (.cells (ints (shrG c.l req ((ordL r c.l.length).take j))) 2) ∧ K[bl]? = some (.cells (rwN c.l.length (room c.l (shrG c.l req ((ordL r c.l.length).take j)))) 2) ∧ K[bx]? = some (.cells [[.msl bl 0 c.l.length]] 34)) (fun j => c.l.length - j) 0 ?_ ?_
            · refine ⟨by omega, ?_, ?_, ?_, ⟨?_, ?_, ?_, ?_⟩, hG, kg, kl, kx⟩
              · (first | (focus (simp only [go_sem, ↓reduceIte, Nat.reduceEqDiff, Nat.reduceBEq, Nat.reduceAdd, Nat.reduceLeDiff, Nat.reduceMul, Nat.reduceLT, Int.reduceToNat, reduceCtorEq, Int.reduceBEq, Int.reduceBNe, Int.reduceLT, Int.reduceLE, Int.reduceGT, Int.reduceGE]; done)) | (focus (simp only [go_sem, ↓reduceIte, Nat.reduceEqDiff, Nat.reduceBEq, Nat.reduceAdd, Nat.reduceLeDiff, Nat.reduceMul, Nat.reduceLT, Int.reduceToNat, reduceCtorEq, Int.reduceBEq, Int.reduceBNe, Int.reduceLT, Int.reduceLE, Int.reduceGT, Int.reduceGE]; rfl)) | rfl)
              · (first | (focus (simp only [go_sem, ↓reduceIte, Nat.reduceEqDiff, Nat.reduceBEq, Nat.reduceAdd, Nat.reduceLeDiff, Nat.reduceMul, Nat.reduceLT, Int.reduceToNat, reduceCtorEq, Int.reduceBEq, Int.reduceBNe, Int.reduceLT, Int.reduceLE, Int.reduceGT, Int.reduceGE, hnol]; done)) | (focus (simp only [go_sem, ↓reduceIte, Nat.reduceEqDiff, Nat.reduceBEq, Nat.reduceAdd, Nat.reduceLeDiff, Nat.reduceMul, Nat.reduceLT, Int.reduceToNat, reduceCtorEq, Int.reduceBEq, Int.reduceBNe, Int.reduceLT, Int.reduceLE, Int.reduceGT, Int.reduceGE, hnol]; rfl)) | rfl)
              · (first | (focus (simp only [go_sem, ↓reduceIte, Nat.reduceEqDiff, Nat.reduceBEq, Nat.reduceAdd, Nat.reduceLeDiff, Nat.reduceMul, Nat.reduceLT, Int.reduceToNat, reduceCtorEq, Int.reduceBEq, Int.reduceBNe, Int.reduceLT, Int.reduceLE, Int.reduceGT, Int.reduceGE]; done)) | (focus (simp only [go_sem, ↓reduceIte, Nat.reduceEqDiff, Nat.reduceBEq, Nat.reduceAdd, Nat.reduceLeDiff, Nat.reduceMul, Nat.reduceLT, Int.reduceToNat, reduceCtorEq, Int.reduceBEq, Int.reduceBNe, Int.reduceLT, Int.reduceLE, Int.reduceGT, Int.reduceGE]; rfl)) | rfl)
              · (first | (focus (simp only [go_sem, ↓reduceIte, Nat.reduceEqDiff, Nat.reduceBEq, Nat.reduceAdd, Nat.reduceLeDiff, Nat.reduceMul, Nat.reduceLT, Int.reduceToNat, reduceCtorEq, Int.reduceBEq, Int.reduceBNe, Int.reduceLT, Int.reduceLE, Int.reduceGT, Int.reduceGE, t1]; done)) | (focus (simp only [go_sem, ↓reduceIte, Nat.reduceEqDiff, Nat.reduceBEq, Nat.reduceAdd, Nat.reduceLeDiff, Nat.reduceMul, Nat.reduceLT, Int.reduceToNat, reduceCtorEq, Int.reduceBEq, Int.reduceBNe, Int.reduceLT, Int.reduceLE, Int.reduceGT, Int.reduceGE, t1]; rfl)) | rfl)
              · (first | (focus (simp only [go_sem, ↓reduceIte, Nat.reduceEqDiff, Nat.reduceBEq, Nat.reduceAdd, Nat.reduceLeDiff, Nat.reduceMul, Nat.reduceLT, Int.reduceToNat, reduceCtorEq, Int.reduceBEq, Int.reduceBNe, Int.reduceLT, Int.reduceLE, Int.reduceGT, Int.reduceGE, t8]; done)) | (focus (simp only [go_sem, ↓reduceIte, Nat.reduceEqDiff, Nat.reduceBEq, Nat.reduceAdd, Nat.reduceLeDiff, Nat.reduceMul, Nat.reduceLT, Int.reduceToNat, reduceCtorEq, Int.reduceBEq, Int.reduceBNe, Int.reduceLT, Int.reduceLE, Int.reduceGT, Int.reduceGE, t8]; rfl)) | rfl)
              · (first | (focus (simp only [go_sem, ↓reduceIte, Nat.reduceEqDiff, Nat.reduceBEq, Nat.reduceAdd, Nat.reduceLeDiff, Nat.reduceMul, Nat.reduceLT, Int.reduceToNat, reduceCtorEq, Int.reduceBEq, Int.reduceBNe, Int.reduceLT, Int.reduceLE, Int.reduceGT, Int.reduceGE, t11]; done)) | (focus (simp only [go_sem, ↓reduceIte, Nat.reduceEqDiff, Nat.reduceBEq, Nat.reduceAdd, Nat.reduceLeDiff, Nat.reduceMul, Nat.reduceLT, Int.reduceToNat, reduceCtorEq, Int.reduceBEq, Int.reduceBNe, Int.reduceLT, Int.reduceLE, Int.reduceGT, Int.reduceGE, t11]; rfl)) | rfl)
              · (first | (focus (simp only [go_sem, ↓reduceIte, Nat.reduceEqDiff, Nat.reduceBEq, Nat.reduceAdd, Nat.reduceLeDiff, Nat.reduceMul, Nat.reduceLT, Int.reduceToNat, reduceCtorEq, Int.reduceBEq, Int.reduceBNe, Int.reduceLT, Int.reduceLE, Int.reduceGT, Int.reduceGE, t12]; done)) | (focus (simp only [go_sem, ↓reduceIte, Nat.reduceEqDiff, Nat.reduceBEq, Nat.reduceAdd, Nat.reduceLeDiff, Nat.reduceMul, Nat.reduceLT, Int.reduceToNat, reduceCtorEq, Int.reduceBEq, Int.reduceBNe, Int.reduceLT, Int.reduceLE, Int.reduceGT, Int.reduceGE, t12]; rfl)) | rfl)
            clear t1 t3 t5 t8 t11 t12 t49 t50 t51 kg kl kx hG T1 K hkl0 hsr hca ho hi hlt
            rintro j T1 K ⟨hj, t67, t66, t65, ⟨t1, t8, t11, t12⟩, hG, kg, kl, kx⟩
            have hGd := Gd.all hg hin r j hj
            by_cases hlt : j < c.l.length
            · obtain ⟨k, hk⟩ := nth (l := ordL r c.l.length) (i := j) (by omega)
              have hkl : k < c.l.length := by simpa using (ordL_perm r c.l.length).mem_iff.1 (List.mem_of_getElem? hk)
              have hko : k ∉ (ordL r c.l.length).take j := nodup_take ((ordL_perm r c.l.length).nodup_iff.2 List.nodup_range) hk
              have hnx := shrG_next (l := c.l) (req := req) hk
              generalize shrG c.l req ((ordL r c.l.length).take j) = g at *
              generalize (ordL r c.l.length).take j = oj at *
              have hkc := nats_at hk
              have hrq := gA_at (g := req) (i := k) (by omega)
              have hz := hGd.zero k hko
              have hgl2 : g.length = c.l.length := hGd.len
              repeat' (first | refine spD (fun _ => ?_) (fun _ => ?_) | refine spF (fun _ => ?_) (fun _ => ?_) | (apply gT; (exact rfl)) | (apply off; (exact rfl); (exact rfl)) | (apply condT; (exact rfl)) | (apply condF; (exact rfl)) | ((first | (apply stp0; (exact rfl); (exact rfl)) | (apply stpN0; (exact rfl)) | apply gT | apply condT | ((first | apply bodyQ_d0 | apply bodyQ_d1 | apply bodyQ_d2 | apply bodyQ_d3 | apply bodyQ_d4); (exact .inr rfl); (rw [Try.results61]))); (first | (focus (simp only [go_sem, ↓reduceIte, Nat.reduceEqDiff, Nat.reduceBEq, Nat.reduceAdd, Nat.reduceLeDiff, Nat.reduceMul, Nat.reduceLT, Int.reduceToNat, reduceCtorEq, Int.reduceBEq, Int.reduceBNe, Int.reduceLT, Int.reduceLE, Int.reduceGT, Int.reduceGE, t67, t66, t65, t1, t8, t11, t12, hkc, hrq, hnol] <;> rfl)) | exact rfl); (first | (fail_if_success (show okD _ _ _ _ _ _ _ _ _)) | (first | exact okT | exact okN | exact okE rfl)); (first | (fail_if_success (show Bel _ _)) | (focus first | exact .val _ | (simp [oneOf, Bel_iff_tup, Bel_iff_agg, Bel_iff_rsl, Bel_iff_fn, Bel_iff_rptr, Bel_val]; done)))) | (apply calTo0; (exact rfl); (iterate 2 (simp only [go_sem, ↓reduceIte, Nat.reduceEqDiff, Nat.reduceBEq, Nat.reduceAdd, Nat.reduceLeDiff, Nat.reduceMul, Nat.reduceLT, Int.reduceToNat, reduceCtorEq, Int.reduceBEq, Int.reduceBNe, Int.reduceLT, Int.reduceLE, Int.reduceGT, Int.reduceGE, t67, t66, t65, t1, t8, t11, t12, hkc, hrq, hnol]; rfl)); (first | exact up_ok _ c k); (first | exact okT | exact okN | exact okE rfl)) | refine thenQ_n ?_ | refine thenQ_r ?_ | refine thenQ_e ?_ | refine blockQ_n ?_ | refine blockQ_r ?_ | refine blockQ_e ?_ | (apply blockQ_o; (exact rfl)) | refine Awp.seq ?_ | refine Awp.skip ?_ | refine Awp.block ?_ | refine reg (fun s => s == 12 || s == 14 || s == 17) ?_ | (apply drwE mixed (fun s => s == 12 || s == 14 || s == 17); (kernel_rfl)) | refine fin ?_ | refine Awp.ret ?_ | refine Awp.exit ?_ | ((first | (apply off; (exact rfl)) | apply condF); (first | (focus (simp only [go_sem, ↓reduceIte, Nat.reduceEqDiff, Nat.reduceBEq, Nat.reduceAdd, Nat.reduceLeDiff, Nat.reduceMul, Nat.reduceLT, Int.reduceToNat, reduceCtorEq, Int.reduceBEq, Int.reduceBNe, Int.reduceLT, Int.reduceLE, Int.reduceGT, Int.reduceGE, t67, t66, t65, t1, t8, t11, t12, hkc, hrq, hnol] <;> rfl)) | exact rfl)))
              all_goals first | contradiction | (exfalso; omega) | skip
              refine Awp.withT (fun T' => T' 1 = .rsl (ints req) exq ∧ T' 8 = treeV c ∧ T' 11 = .msl bg 0 c.l.length ∧ T' 12 = .mptr bx 0 0 ∧ T' 16 = iv k ∧ T' 17 = .mptr K.length 0 0 ∧ T' 65 = .rsl (nats (ordL r c.l.length)) false ∧ T' 66 = iv c.l.length ∧ T' 67 = iv j ∧ T' 77 = .fn (.func 111) [.mptr (K ++ [AObj.cells [[iv (gA req k)]] 2]).length 0 0, .rptr [treeV c] 0]) ⟨?_, ?_, ?_, ?_, ?_, ?_, ?_, ?_, ?_, ?_⟩ ?_
              · (first | (focus (simp only [go_sem, ↓reduceIte, Nat.reduceEqDiff, Nat.reduceBEq, Nat.reduceAdd, Nat.reduceLeDiff, Nat.reduceMul, Nat.reduceLT, Int.reduceToNat, reduceCtorEq, Int.reduceBEq, Int.reduceBNe, Int.reduceLT, Int.reduceLE, Int.reduceGT, Int.reduceGE, t1]; done)) | (focus (simp only [go_sem, ↓reduceIte, Nat.reduceEqDiff, Nat.reduceBEq, Nat.reduceAdd, Nat.reduceLeDiff, Nat.reduceMul, Nat.reduceLT, Int.reduceToNat, reduceCtorEq, Int.reduceBEq, Int.reduceBNe, Int.reduceLT, Int.reduceLE, Int.reduceGT, Int.reduceGE, t1]; rfl)) | rfl)
              · (first | (focus (simp only [go_sem, ↓reduceIte, Nat.reduceEqDiff, Nat.reduceBEq, Nat.reduceAdd, Nat.reduceLeDiff, Nat.reduceMul, Nat.reduceLT, Int.reduceToNat, reduceCtorEq, Int.reduceBEq, Int.reduceBNe, Int.reduceLT, Int.reduceLE, Int.reduceGT, Int.reduceGE, t8]; done)) | (focus (simp only [go_sem, ↓reduceIte, Nat.reduceEqDiff, Nat.reduceBEq, Nat.reduceAdd, Nat.reduceLeDiff, Nat.reduceMul, Nat.reduceLT, Int.reduceToNat, reduceCtorEq, Int.reduceBEq, Int.reduceBNe, Int.reduceLT, Int.reduceLE, Int.reduceGT, Int.reduceGE, t8]; rfl)) | rfl)
              · (first | (focus (simp only [go_sem, ↓reduceIte, Nat.reduceEqDiff, Nat.reduceBEq, Nat.reduceAdd, Nat.reduceLeDiff, Nat.reduceMul, Nat.reduceLT, Int.reduceToNat, reduceCtorEq, Int.reduceBEq, Int.reduceBNe, Int.reduceLT, Int.reduceLE, Int.reduceGT, Int.reduceGE, t11]; done)) | (focus (simp only [go_sem, ↓reduceIte, Nat.reduceEqDiff, Nat.reduceBEq, Nat.reduceAdd, Nat.reduceLeDiff, Nat.reduceMul, Nat.reduceLT, Int.reduceToNat, reduceCtorEq, Int.reduceBEq, Int.reduceBNe, Int.reduceLT, Int.reduceLE, Int.reduceGT, Int.reduceGE, t11]; rfl)) | rfl)
              · (first | (focus (simp only [go_sem, ↓reduceIte, Nat.reduceEqDiff, Nat.reduceBEq, Nat.reduceAdd, Nat.reduceLeDiff, Nat.reduceMul, Nat.reduceLT, Int.reduceToNat, reduceCtorEq, Int.reduceBEq, Int.reduceBNe, Int.reduceLT, Int.reduceLE, Int.reduceGT, Int.reduceGE, t12]; done)) | (focus (simp only [go_sem, ↓reduceIte, Nat.reduceEqDiff, Nat.reduceBEq, Nat.reduceAdd, Nat.reduceLeDiff, Nat.reduceMul, Nat.reduceLT, Int.reduceToNat, reduceCtorEq, Int.reduceBEq, Int.reduceBNe, Int.reduceLT, Int.reduceLE, Int.reduceGT, Int.reduceGE, t12]; rfl)) | rfl)
              · (first | (focus (simp only [go_sem, ↓reduceIte, Nat.reduceEqDiff, Nat.reduceBEq, Nat.reduceAdd, Nat.reduceLeDiff, Nat.reduceMul, Nat.reduceLT, Int.reduceToNat, reduceCtorEq, Int.reduceBEq, Int.reduceBNe, Int.reduceLT, Int.reduceLE, Int.reduceGT, Int.reduceGE]; done)) | (focus (simp only [go_sem, ↓reduceIte, Nat.reduceEqDiff, Nat.reduceBEq, Nat.reduceAdd, Nat.reduceLeDiff, Nat.reduceMul, Nat.reduceLT, Int.reduceToNat, reduceCtorEq, Int.reduceBEq, Int.reduceBNe, Int.reduceLT, Int.reduceLE, Int.reduceGT, Int.reduceGE]; rfl)) | rfl)
              · (first | (focus (simp only [go_sem, ↓reduceIte, Nat.reduceEqDiff, Nat.reduceBEq, Nat.reduceAdd, Nat.reduceLeDiff, Nat.reduceMul, Nat.reduceLT, Int.reduceToNat, reduceCtorEq, Int.reduceBEq, Int.reduceBNe, Int.reduceLT, Int.reduceLE, Int.reduceGT, Int.reduceGE]; done)) | (focus (simp only [go_sem, ↓reduceIte, Nat.reduceEqDiff, Nat.reduceBEq, Nat.reduceAdd, Nat.reduceLeDiff, Nat.reduceMul, Nat.reduceLT, Int.reduceToNat, reduceCtorEq, Int.reduceBEq, Int.reduceBNe, Int.reduceLT, Int.reduceLE, Int.reduceGT, Int.reduceGE]; rfl)) | rfl)
              · (first | (focus (simp only [go_sem, ↓reduceIte, Nat.reduceEqDiff, Nat.reduceBEq, Nat.reduceAdd, Nat.reduceLeDiff, Nat.reduceMul, Nat.reduceLT, Int.reduceToNat, reduceCtorEq, Int.reduceBEq, Int.reduceBNe, Int.reduceLT, Int.reduceLE, Int.reduceGT, Int.reduceGE, t65]; done)) | (focus (simp only [go_sem, ↓reduceIte, Nat.reduceEqDiff, Nat.reduceBEq, Nat.reduceAdd, Nat.reduceLeDiff, Nat.reduceMul, Nat.reduceLT, Int.reduceToNat, reduceCtorEq, Int.reduceBEq, Int.reduceBNe, Int.reduceLT, Int.reduceLE, Int.reduceGT, Int.reduceGE, t65]; rfl)) | rfl)
              · (first | (focus (simp only [go_sem, ↓reduceIte, Nat.reduceEqDiff, Nat.reduceBEq, Nat.reduceAdd, Nat.reduceLeDiff, Nat.reduceMul, Nat.reduceLT, Int.reduceToNat, reduceCtorEq, Int.reduceBEq, Int.reduceBNe, Int.reduceLT, Int.reduceLE, Int.reduceGT, Int.reduceGE, t66]; done)) | (focus (simp only [go_sem, ↓reduceIte, Nat.reduceEqDiff, Nat.reduceBEq, Nat.reduceAdd, Nat.reduceLeDiff, Nat.reduceMul, Nat.reduceLT, Int.reduceToNat, reduceCtorEq, Int.reduceBEq, Int.reduceBNe, Int.reduceLT, Int.reduceLE, Int.reduceGT, Int.reduceGE, t66]; rfl)) | rfl)
              · (first | (focus (simp only [go_sem, ↓reduceIte, Nat.reduceEqDiff, Nat.reduceBEq, Nat.reduceAdd, Nat.reduceLeDiff, Nat.reduceMul, Nat.reduceLT, Int.reduceToNat, reduceCtorEq, Int.reduceBEq, Int.reduceBNe, Int.reduceLT, Int.reduceLE, Int.reduceGT, Int.reduceGE, t67]; done)) | (focus (simp only [go_sem, ↓reduceIte, Nat.reduceEqDiff, Nat.reduceBEq, Nat.reduceAdd, Nat.reduceLeDiff, Nat.reduceMul, Nat.reduceLT, Int.reduceToNat, reduceCtorEq, Int.reduceBEq, Int.reduceBNe, Int.reduceLT, Int.reduceLE, Int.reduceGT, Int.reduceGE, t67]; rfl)) | rfl)
              · (first | (focus (simp only [go_sem, ↓reduceIte, Nat.reduceEqDiff, Nat.reduceBEq, Nat.reduceAdd, Nat.reduceLeDiff, Nat.reduceMul, Nat.reduceLT, Int.reduceToNat, reduceCtorEq, Int.reduceBEq, Int.reduceBNe, Int.reduceLT, Int.reduceLE, Int.reduceGT, Int.reduceGE]; done)) | (focus (simp only [go_sem, ↓reduceIte, Nat.reduceEqDiff, Nat.reduceBEq, Nat.reduceAdd, Nat.reduceLeDiff, Nat.reduceMul, Nat.reduceLT, Int.reduceToNat, reduceCtorEq, Int.reduceBEq, Int.reduceBNe, Int.reduceLT, Int.reduceLE, Int.reduceGT, Int.reduceGE]; rfl)) | rfl)
              clear t1 t8 t11 t12 t65 t66 t67 T1
              rintro T1 ⟨t1, t8, t11, t12, t16, t17, t65, t66, t67, t77⟩
              refine overUp (k0 := k) c hg hkl t77 (by decide) (fun m B => B.length = K.length + 1 ∧ Grow H B ∧ B[bg]? = some (.cells (ints g) 2) ∧ B[bl]? = some (.cells (rwN c.l.length (room c.l g)) 2) ∧ B[bx]? = some (.cells [[.msl bl 0 c.l.length]] 34) ∧
                B[K.length]? = some (.cells [[iv (getN c.l g (gA req k) ((pth c.l k).take m))]] 2)) (fun _ => False) (fun _ _ => False) ?_ ?_ ?_ ?_ ?_ ?_
              · rintro m B ⟨h, _⟩; simp [h]
              · exact ⟨by simp, hG.app _, (held kg).2.1 _, (held kl).2.1 _, (held kx).2.1 _, by simp [getN]⟩
              · rintro lp m p B hp ⟨hBl, hGB, k0, k1, k2, k5⟩
                have hpn := pth_lt hkl hp
                have hrow := rwN_at hpn (room c.l g)
                have hrn := rwN_len c.l.length (room c.l g)
                have hk1 := held k1
                have hk2 := held k2
                have hk5 := heldS k5
                have hk5' := held k5
                have hxl := (List.getElem?_eq_some_iff.1 kx).1
                have hll := (List.getElem?_eq_some_iff.1 kl).1
                have hgl3 := (List.getElem?_eq_some_iff.1 kg).1
                have ho0 := heldO (s := K.length) (by omega) k0
                have ho1 := heldO (s := K.length) (by omega) k1
                have ho2 := heldO (s := K.length) (by omega) k2
                repeat' (first | refine spD (fun _ => ?_) (fun _ => ?_) | refine spF (fun _ => ?_) (fun _ => ?_) | (apply gT; (exact rfl)) | (apply off; (exact rfl); (exact rfl)) | (apply condT; (exact rfl)) | (apply condF; (exact rfl)) | ((first | (apply stp0; (exact rfl); (exact rfl)) | (apply stpN0; (exact rfl)) | apply gT | apply condT | ((first | apply bodyQ_d0 | apply bodyQ_d1 | apply bodyQ_d2 | apply bodyQ_d3 | apply bodyQ_d4); (exact .inr rfl); (rw [Try.results61]))); (first | (focus (simp only [go_sem, ↓reduceIte, Nat.reduceEqDiff, Nat.reduceBEq, Nat.reduceAdd, Nat.reduceLeDiff, Nat.reduceMul, Nat.reduceLT, Int.reduceToNat, reduceCtorEq, Int.reduceBEq, Int.reduceBNe, Int.reduceLT, Int.reduceLE, Int.reduceGT, Int.reduceGE, t1, t8, t11, t12, t16, t17, t65, t66, t67] <;> rfl)) | exact rfl); (first | (fail_if_success (show okD _ _ _ _ _ _ _ _ _)) | (first | exact okT | exact okN | exact okE rfl)); (first | (fail_if_success (show Bel _ _)) | (focus first | exact .val _ | (simp [oneOf, Bel_iff_tup, Bel_iff_agg, Bel_iff_rsl, Bel_iff_fn, Bel_iff_rptr, Bel_val]; done)))) | refine thenQ_n ?_ | refine thenQ_r ?_ | refine thenQ_e ?_ | refine blockQ_n ?_ | refine blockQ_r ?_ | refine blockQ_e ?_ | (apply blockQ_o; (exact rfl)) | refine Awp.seq ?_ | refine Awp.skip ?_ | refine Awp.block ?_ | refine reg (fun s => s == 12 || s == 14 || s == 17) ?_ | (apply drwE mixed (fun s => s == 12 || s == 14 || s == 17); (kernel_rfl)) | refine fin ?_ | refine Awp.ret ?_ | refine Awp.exit ?_ | ((first | (apply off; (exact rfl)) | apply condF); (first | (focus (simp only [go_sem, ↓reduceIte, Nat.reduceEqDiff, Nat.reduceBEq, Nat.reduceAdd, Nat.reduceLeDiff, Nat.reduceMul, Nat.reduceLT, Int.reduceToNat, reduceCtorEq, Int.reduceBEq, Int.reduceBNe, Int.reduceLT, Int.reduceLE, Int.reduceGT, Int.reduceGE, t1, t8, t11, t12, t16, t17, t65, t66, t67] <;> rfl)) | exact rfl)))
                refine ⟨rfl, [], by simp, ?_⟩
                rw [List.append_nil]
                repeat' (first | refine spD (fun _ => ?_) (fun _ => ?_) | refine spF (fun _ => ?_) (fun _ => ?_) | (apply gT; (exact rfl)) | (apply off; (exact rfl); (exact rfl)) | (apply condT; (exact rfl)) | (apply condF; (exact rfl)) | ((first | (apply stp0; (exact rfl); (exact rfl)) | (apply stpN0; (exact rfl)) | apply gT | apply condT | ((first | apply bodyQ_d0 | apply bodyQ_d1 | apply bodyQ_d2 | apply bodyQ_d3 | apply bodyQ_d4); (exact .inr rfl); (rw [Try.results61]))); (first | (focus (simp only [go_sem, ↓reduceIte, Nat.reduceEqDiff, Nat.reduceBEq, Nat.reduceAdd, Nat.reduceLeDiff, Nat.reduceMul, Nat.reduceLT, Int.reduceToNat, reduceCtorEq, Int.reduceBEq, Int.reduceBNe, Int.reduceLT, Int.reduceLE, Int.reduceGT, Int.reduceGE, t1, t8, t11, t12, t16, t17, t65, t66, t67, hk1, hk2, hk5, hk5', hrow, hrn, Nat.zero_add, hpn] <;> rfl)) | exact rfl); (first | (fail_if_success (show okD _ _ _ _ _ _ _ _ _)) | (first | exact okT | exact okN | exact okE rfl)); (first | (fail_if_success (show Bel _ _)) | (focus first | exact .val _ | (simp [oneOf, Bel_iff_tup, Bel_iff_agg, Bel_iff_rsl, Bel_iff_fn, Bel_iff_rptr, Bel_val]; done)))) | refine thenQ_n ?_ | refine thenQ_r ?_ | refine thenQ_e ?_ | refine blockQ_n ?_ | refine blockQ_r ?_ | refine blockQ_e ?_ | (apply blockQ_o; (exact rfl)) | refine Awp.seq ?_ | refine Awp.skip ?_ | refine Awp.block ?_ | refine reg (fun s => s == 12 || s == 14 || s == 17) ?_ | (apply drwE mixed (fun s => s == 12 || s == 14 || s == 17); (kernel_rfl)) | refine fin ?_ | refine Awp.ret ?_ | refine Awp.exit ?_ | ((first | (apply off; (exact rfl)) | apply condF); (first | (focus (simp only [go_sem, ↓reduceIte, Nat.reduceEqDiff, Nat.reduceBEq, Nat.reduceAdd, Nat.reduceLeDiff, Nat.reduceMul, Nat.reduceLT, Int.reduceToNat, reduceCtorEq, Int.reduceBEq, Int.reduceBNe, Int.reduceLT, Int.reduceLE, Int.reduceGT, Int.reduceGE, t1, t8, t11, t12, t16, t17, t65, t66, t67, hk1, hk2, hk5, hk5', hrow, hrn, Nat.zero_add, hpn] <;> rfl)) | exact rfl)))
                rw [← getN_next hp]
                exact roundE_n0 ((Lk.refl _).set (BelO_plain (by intro e he a ha; simp at he; subst he; simp at ha; exact ⟨_, ha⟩)))
                  ⟨by rw [List.length_set]; exact hBl, hGB.set (by have := hG.len; omega) _, ho0.1 _, ho1.1 _, ho2.1 _, hk5.1 _⟩
              · rintro B ⟨hBl, hGB, k0, k1, k2, k5⟩
                rw [List.take_length] at k5
                have hgr : grant c.l req g k = g.set k (getN c.l g (gA req k) (pth c.l k)) := rfl
                have hv0 : 0 ≤ getN c.l g (gA req k) (pth c.l k) := getN_ge (gA_in hin k).1 fun i hi => hGd.room i (by have := pth_le c.l k i hi; omega)
                have hvle : ∀ i ∈ pth c.l k, getN c.l g (gA req k) (pth c.l k) ≤ room c.l g i := fun i hi => getN_le hi
                have hrs : ∀ i, room c.l (grant c.l req g k) i = room c.l g i - if i ∈ pth c.l k then getN c.l g (gA req k) (pth c.l k) else 0 := fun i => room_set hgl2 hkl hz i
                have hri := fun i => room_in hg hGd.nn i
                generalize getN c.l g (gA req k) (pth c.l k) = v at *
                have hxl := (List.getElem?_eq_some_iff.1 kx).1
                have hll := (List.getElem?_eq_some_iff.1 kl).1
                have hgl3 := (List.getElem?_eq_some_iff.1 kg).1
                have hk0 := held k0
                have hk0' := heldS k0
                have hk5 := held k5
                have hgk := gA_at (g := g) (i := k) (by omega)
                have hgn := ints_len g
                repeat' (first | refine spD (fun _ => ?_) (fun _ => ?_) | refine spF (fun _ => ?_) (fun _ => ?_) | (apply gT; (exact rfl)) | (apply off; (exact rfl); (exact rfl)) | (apply condT; (exact rfl)) | (apply condF; (exact rfl)) | ((first | (apply stp0; (exact rfl); (exact rfl)) | (apply stpN0; (exact rfl)) | apply gT | apply condT | ((first | apply bodyQ_d0 | apply bodyQ_d1 | apply bodyQ_d2 | apply bodyQ_d3 | apply bodyQ_d4); (exact .inr rfl); (rw [Try.results61]))); (first | (focus (simp only [go_sem, ↓reduceIte, Nat.reduceEqDiff, Nat.reduceBEq, Nat.reduceAdd, Nat.reduceLeDiff, Nat.reduceMul, Nat.reduceLT, Int.reduceToNat, reduceCtorEq, Int.reduceBEq, Int.reduceBNe, Int.reduceLT, Int.reduceLE, Int.reduceGT, Int.reduceGE, t1, t8, t11, t12, t16, t17, t65, t66, t67, hk0, hk0', hk5, hgk, hgn, hgl2, hkl, Nat.zero_add] <;> rfl)) | exact rfl); (first | (fail_if_success (show okD _ _ _ _ _ _ _ _ _)) | (first | exact okT | exact okN | exact okE rfl)); (first | (fail_if_success (show Bel _ _)) | (focus first | exact .val _ | (simp [oneOf, Bel_iff_tup, Bel_iff_agg, Bel_iff_rsl, Bel_iff_fn, Bel_iff_rptr, Bel_val]; done)))) | (apply calTo0; (exact rfl); (iterate 2 (simp only [go_sem, ↓reduceIte, Nat.reduceEqDiff, Nat.reduceBEq, Nat.reduceAdd, Nat.reduceLeDiff, Nat.reduceMul, Nat.reduceLT, Int.reduceToNat, reduceCtorEq, Int.reduceBEq, Int.reduceBNe, Int.reduceLT, Int.reduceLE, Int.reduceGT, Int.reduceGE, t1, t8, t11, t12, t16, t17, t65, t66, t67, hk0, hk0', hk5, hgk, hgn, hgl2, hkl, Nat.zero_add]; rfl)); (first | exact up_ok _ c k); (first | exact okT | exact okN | exact okE rfl)) | refine thenQ_n ?_ | refine thenQ_r ?_ | refine thenQ_e ?_ | refine blockQ_n ?_ | refine blockQ_r ?_ | refine blockQ_e ?_ | (apply blockQ_o; (exact rfl)) | refine Awp.seq ?_ | refine Awp.skip ?_ | refine Awp.block ?_ | refine reg (fun s => s == 12 || s == 14 || s == 17) ?_ | (apply drwE mixed (fun s => s == 12 || s == 14 || s == 17); (kernel_rfl)) | refine fin ?_ | refine Awp.ret ?_ | refine Awp.exit ?_ | ((first | (apply off; (exact rfl)) | apply condF); (first | (focus (simp only [go_sem, ↓reduceIte, Nat.reduceEqDiff, Nat.reduceBEq, Nat.reduceAdd, Nat.reduceLeDiff, Nat.reduceMul, Nat.reduceLT, Int.reduceToNat, reduceCtorEq, Int.reduceBEq, Int.reduceBNe, Int.reduceLT, Int.reduceLE, Int.reduceGT, Int.reduceGE, t1, t8, t11, t12, t16, t17, t65, t66, t67, hk0, hk0', hk5, hgk, hgn, hgl2, hkl, Nat.zero_add] <;> rfl)) | exact rfl)))
                all_goals first | contradiction | (exfalso; omega) | skip
                have is : (ints g).set k [AV.val (Value.int IntKind.i64 v)] = ints (g.set k v) := by simp [ints, List.map_set]
                have kg2 : (List.set B bg (.cells ((ints g).set k [AV.val (Value.int IntKind.i64 v)]) 2) ++ [bxO (-1)] ++ [.dead])[bg]? = some (.cells (ints (grant c.l req g k)) 2) := by rw [(heldS k0).2.2.1, is, ← hgr]
                have kl2 := (heldO hgl k1).2.2.1 (.cells ((ints g).set k [AV.val (Value.int IntKind.i64 v)]) 2) [bxO (-1)] [.dead]
                have kx2 := (heldO hgx k2).2.2.1 (.cells ((ints g).set k [AV.val (Value.int IntKind.i64 v)]) 2) [bxO (-1)] [.dead]
                have kv2 := (heldO (show bg ≠ K.length by omega) k5).2.2.1 (.cells ((ints g).set k [AV.val (Value.int IntKind.i64 v)]) 2) [bxO (-1)] [.dead]
                have hG2 := ((hGB.set hbg (.cells ((ints g).set k [AV.val (Value.int IntKind.i64 v)]) 2)).app [bxO (-1)]).app [.dead]
                generalize List.set B bg (.cells ((ints g).set k [AV.val (Value.int IntKind.i64 v)]) 2) ++ [bxO (-1)] ++ [.dead] = K2 at *
                refine Awp.withT (fun T' => T' 1 = .rsl (ints req) exq ∧ T' 8 = treeV c ∧ T' 11 = .msl bg 0 c.l.length ∧ T' 12 = .mptr bx 0 0 ∧ T' 17 = .mptr K.length 0 0 ∧ T' 65 = .rsl (nats (ordL r c.l.length)) false ∧ T' 66 = iv c.l.length ∧ T' 67 = iv j ∧ T' 91 = .fn (.func 111) [.mptr K2.length 0 0, .rptr [treeV c] 0]) ⟨?_, ?_, ?_, ?_, ?_, ?_, ?_, ?_, ?_⟩ ?_
                · (first | (focus (simp only [go_sem, ↓reduceIte, Nat.reduceEqDiff, Nat.reduceBEq, Nat.reduceAdd, Nat.reduceLeDiff, Nat.reduceMul, Nat.reduceLT, Int.reduceToNat, reduceCtorEq, Int.reduceBEq, Int.reduceBNe, Int.reduceLT, Int.reduceLE, Int.reduceGT, Int.reduceGE, t1]; done)) | (focus (simp only [go_sem, ↓reduceIte, Nat.reduceEqDiff, Nat.reduceBEq, Nat.reduceAdd, Nat.reduceLeDiff, Nat.reduceMul, Nat.reduceLT, Int.reduceToNat, reduceCtorEq, Int.reduceBEq, Int.reduceBNe, Int.reduceLT, Int.reduceLE, Int.reduceGT, Int.reduceGE, t1]; rfl)) | rfl)
                · (first | (focus (simp only [go_sem, ↓reduceIte, Nat.reduceEqDiff, Nat.reduceBEq, Nat.reduceAdd, Nat.reduceLeDiff, Nat.reduceMul, Nat.reduceLT, Int.reduceToNat, reduceCtorEq, Int.reduceBEq, Int.reduceBNe, Int.reduceLT, Int.reduceLE, Int.reduceGT, Int.reduceGE, t8]; done)) | (focus (simp only [go_sem, ↓reduceIte, Nat.reduceEqDiff, Nat.reduceBEq, Nat.reduceAdd, Nat.reduceLeDiff, Nat.reduceMul, Nat.reduceLT, Int.reduceToNat, reduceCtorEq, Int.reduceBEq, Int.reduceBNe, Int.reduceLT, Int.reduceLE, Int.reduceGT, Int.reduceGE, t8]; rfl)) | rfl)
                · (first | (focus (simp only [go_sem, ↓reduceIte, Nat.reduceEqDiff, Nat.reduceBEq, Nat.reduceAdd, Nat.reduceLeDiff, Nat.reduceMul, Nat.reduceLT, Int.reduceToNat, reduceCtorEq, Int.reduceBEq, Int.reduceBNe, Int.reduceLT, Int.reduceLE, Int.reduceGT, Int.reduceGE, t11]; done)) | (focus (simp only [go_sem, ↓reduceIte, Nat.reduceEqDiff, Nat.reduceBEq, Nat.reduceAdd, Nat.reduceLeDiff, Nat.reduceMul, Nat.reduceLT, Int.reduceToNat, reduceCtorEq, Int.reduceBEq, Int.reduceBNe, Int.reduceLT, Int.reduceLE, Int.reduceGT, Int.reduceGE, t11]; rfl)) | rfl)
                · (first | (focus (simp only [go_sem, ↓reduceIte, Nat.reduceEqDiff, Nat.reduceBEq, Nat.reduceAdd, Nat.reduceLeDiff, Nat.reduceMul, Nat.reduceLT, Int.reduceToNat, reduceCtorEq, Int.reduceBEq, Int.reduceBNe, Int.reduceLT, Int.reduceLE, Int.reduceGT, Int.reduceGE, t12]; done)) | (focus (simp only [go_sem, ↓reduceIte, Nat.reduceEqDiff, Nat.reduceBEq, Nat.reduceAdd, Nat.reduceLeDiff, Nat.reduceMul, Nat.reduceLT, Int.reduceToNat, reduceCtorEq, Int.reduceBEq, Int.reduceBNe, Int.reduceLT, Int.reduceLE, Int.reduceGT, Int.reduceGE, t12]; rfl)) | rfl)
                · (first | (focus (simp only [go_sem, ↓reduceIte, Nat.reduceEqDiff, Nat.reduceBEq, Nat.reduceAdd, Nat.reduceLeDiff, Nat.reduceMul, Nat.reduceLT, Int.reduceToNat, reduceCtorEq, Int.reduceBEq, Int.reduceBNe, Int.reduceLT, Int.reduceLE, Int.reduceGT, Int.reduceGE, t17]; done)) | (focus (simp only [go_sem, ↓reduceIte, Nat.reduceEqDiff, Nat.reduceBEq, Nat.reduceAdd, Nat.reduceLeDiff, Nat.reduceMul, Nat.reduceLT, Int.reduceToNat, reduceCtorEq, Int.reduceBEq, Int.reduceBNe, Int.reduceLT, Int.reduceLE, Int.reduceGT, Int.reduceGE, t17]; rfl)) | rfl)
                · (first | (focus (simp only [go_sem, ↓reduceIte, Nat.reduceEqDiff, Nat.reduceBEq, Nat.reduceAdd, Nat.reduceLeDiff, Nat.reduceMul, Nat.reduceLT, Int.reduceToNat, reduceCtorEq, Int.reduceBEq, Int.reduceBNe, Int.reduceLT, Int.reduceLE, Int.reduceGT, Int.reduceGE, t65]; done)) | (focus (simp only [go_sem, ↓reduceIte, Nat.reduceEqDiff, Nat.reduceBEq, Nat.reduceAdd, Nat.reduceLeDiff, Nat.reduceMul, Nat.reduceLT, Int.reduceToNat, reduceCtorEq, Int.reduceBEq, Int.reduceBNe, Int.reduceLT, Int.reduceLE, Int.reduceGT, Int.reduceGE, t65]; rfl)) | rfl)
                · (first | (focus (simp only [go_sem, ↓reduceIte, Nat.reduceEqDiff, Nat.reduceBEq, Nat.reduceAdd, Nat.reduceLeDiff, Nat.reduceMul, Nat.reduceLT, Int.reduceToNat, reduceCtorEq, Int.reduceBEq, Int.reduceBNe, Int.reduceLT, Int.reduceLE, Int.reduceGT, Int.reduceGE, t66]; done)) | (focus (simp only [go_sem, ↓reduceIte, Nat.reduceEqDiff, Nat.reduceBEq, Nat.reduceAdd, Nat.reduceLeDiff, Nat.reduceMul, Nat.reduceLT, Int.reduceToNat, reduceCtorEq, Int.reduceBEq, Int.reduceBNe, Int.reduceLT, Int.reduceLE, Int.reduceGT, Int.reduceGE, t66]; rfl)) | rfl)
                · (first | (focus (simp only [go_sem, ↓reduceIte, Nat.reduceEqDiff, Nat.reduceBEq, Nat.reduceAdd, Nat.reduceLeDiff, Nat.reduceMul, Nat.reduceLT, Int.reduceToNat, reduceCtorEq, Int.reduceBEq, Int.reduceBNe, Int.reduceLT, Int.reduceLE, Int.reduceGT, Int.reduceGE, t67]; done)) | (focus (simp only [go_sem, ↓reduceIte, Nat.reduceEqDiff, Nat.reduceBEq, Nat.reduceAdd, Nat.reduceLeDiff, Nat.reduceMul, Nat.reduceLT, Int.reduceToNat, reduceCtorEq, Int.reduceBEq, Int.reduceBNe, Int.reduceLT, Int.reduceLE, Int.reduceGT, Int.reduceGE, t67]; rfl)) | rfl)
                · (first | (focus (simp only [go_sem, ↓reduceIte, Nat.reduceEqDiff, Nat.reduceBEq, Nat.reduceAdd, Nat.reduceLeDiff, Nat.reduceMul, Nat.reduceLT, Int.reduceToNat, reduceCtorEq, Int.reduceBEq, Int.reduceBNe, Int.reduceLT, Int.reduceLE, Int.reduceGT, Int.reduceGE]; done)) | (focus (simp only [go_sem, ↓reduceIte, Nat.reduceEqDiff, Nat.reduceBEq, Nat.reduceAdd, Nat.reduceLeDiff, Nat.reduceMul, Nat.reduceLT, Int.reduceToNat, reduceCtorEq, Int.reduceBEq, Int.reduceBNe, Int.reduceLT, Int.reduceLE, Int.reduceGT, Int.reduceGE]; rfl)) | rfl)
                clear t1 t8 t11 t12 t16 t17 t65 t66 t67 t77 T1 k0 k1 k2 k5 hk0 hk0' hk5 hGB hBl B
                rintro T1 ⟨t1, t8, t11, t12, t17, t65, t66, t67, t91⟩
                have hk2l := (List.getElem?_eq_some_iff.1 kv2).1
                refine overUp (k0 := k) c hg hkl t91 (by decide) (fun m B => B.length = K2.length ∧ Grow H B ∧ B[bg]? = some (.cells (ints (grant c.l req g k)) 2) ∧ B[bl]? = some (.cells (rwN c.l.length fun i => room c.l g i - if i ∈ (pth c.l k).take m then v else 0) 2) ∧ B[bx]? = some (.cells [[.msl bl 0 c.l.length]] 34) ∧
                  B[K.length]? = some (.cells [[iv v]] 2)) (fun _ => False) (fun _ _ => False) ?_ ?_ ?_ ?_ ?_ ?_
                · rintro m B ⟨h, _⟩; exact h
                · exact ⟨rfl, hG2, kg2, by simpa using kl2, kx2, kv2⟩
                · rintro lp m p B hp ⟨hBl, hGB, k0, k1, k2, k5⟩
                  have hpn := pth_lt hkl hp
                  have hno := nodup_take (pth_nodup c.l k) hp
                  have hrow := rwN_at hpn (fun i => room c.l g i - if i ∈ (pth c.l k).take m then v else 0)
                  simp only [if_neg hno, Int.sub_zero] at hrow
                  have hrn := rwN_len c.l.length (fun i => room c.l g i - if i ∈ (pth c.l k).take m then v else 0)
                  have hset := rwN_set hpn (fun i => room c.l g i - if i ∈ (pth c.l k).take m then v else 0) (room c.l g p - v)
                  have hnr : rwN c.l.length (fun j => if j = p then room c.l g p - v else room c.l g j - if j ∈ (pth c.l k).take m then v else 0) = rwN c.l.length (fun i => room c.l g i - if i ∈ (pth c.l k).take (m + 1) then v else 0) := by
                    refine rwN_congr fun i _ => ?_
                    simp only [mem_take_succ hp]
                    by_cases e : i = p
                    · subst e; simp
                    · simp [e]
                  have hpm := hvle p (List.mem_of_getElem? hp)
                  have hrp := hri p
                  have w1 : IntKind.i64.wrap (room c.l g p - v) = room c.l g p - v := w64 (by omega) (by omega)
                  have hk1 := heldS k1
                  have hk1' := held k1
                  have hk2 := held k2
                  have hk5 := held k5
                  have hkv := heldO (s := bl) (show bl ≠ K.length by omega) k5
                  repeat' (first | refine spD (fun _ => ?_) (fun _ => ?_) | refine spF (fun _ => ?_) (fun _ => ?_) | (apply gT; (exact rfl)) | (apply off; (exact rfl); (exact rfl)) | (apply condT; (exact rfl)) | (apply condF; (exact rfl)) | ((first | (apply stp0; (exact rfl); (exact rfl)) | (apply stpN0; (exact rfl)) | apply gT | apply condT | ((first | apply bodyQ_d0 | apply bodyQ_d1 | apply bodyQ_d2 | apply bodyQ_d3 | apply bodyQ_d4); (exact .inr rfl); (rw [Try.results61]))); (first | (focus (simp only [go_sem, ↓reduceIte, Nat.reduceEqDiff, Nat.reduceBEq, Nat.reduceAdd, Nat.reduceLeDiff, Nat.reduceMul, Nat.reduceLT, Int.reduceToNat, reduceCtorEq, Int.reduceBEq, Int.reduceBNe, Int.reduceLT, Int.reduceLE, Int.reduceGT, Int.reduceGE, t1, t8, t11, t12, t17, t65, t66, t67] <;> rfl)) | exact rfl); (first | (fail_if_success (show okD _ _ _ _ _ _ _ _ _)) | (first | exact okT | exact okN | exact okE rfl)); (first | (fail_if_success (show Bel _ _)) | (focus first | exact .val _ | (simp [oneOf, Bel_iff_tup, Bel_iff_agg, Bel_iff_rsl, Bel_iff_fn, Bel_iff_rptr, Bel_val]; done)))) | refine thenQ_n ?_ | refine thenQ_r ?_ | refine thenQ_e ?_ | refine blockQ_n ?_ | refine blockQ_r ?_ | refine blockQ_e ?_ | (apply blockQ_o; (exact rfl)) | refine Awp.seq ?_ | refine Awp.skip ?_ | refine Awp.block ?_ | refine reg (fun s => s == 12 || s == 14 || s == 17) ?_ | (apply drwE mixed (fun s => s == 12 || s == 14 || s == 17); (kernel_rfl)) | refine fin ?_ | refine Awp.ret ?_ | refine Awp.exit ?_ | ((first | (apply off; (exact rfl)) | apply condF); (first | (focus (simp only [go_sem, ↓reduceIte, Nat.reduceEqDiff, Nat.reduceBEq, Nat.reduceAdd, Nat.reduceLeDiff, Nat.reduceMul, Nat.reduceLT, Int.reduceToNat, reduceCtorEq, Int.reduceBEq, Int.reduceBNe, Int.reduceLT, Int.reduceLE, Int.reduceGT, Int.reduceGE, t1, t8, t11, t12, t17, t65, t66, t67] <;> rfl)) | exact rfl)))
                  refine ⟨rfl, [], by simp, ?_⟩
                  rw [List.append_nil]
                  repeat' (first | refine spD (fun _ => ?_) (fun _ => ?_) | refine spF (fun _ => ?_) (fun _ => ?_) | (apply gT; (exact rfl)) | (apply off; (exact rfl); (exact rfl)) | (apply condT; (exact rfl)) | (apply condF; (exact rfl)) | ((first | (apply stp0; (exact rfl); (exact rfl)) | (apply stpN0; (exact rfl)) | apply gT | apply condT | ((first | apply bodyQ_d0 | apply bodyQ_d1 | apply bodyQ_d2 | apply bodyQ_d3 | apply bodyQ_d4); (exact .inr rfl); (rw [Try.results61]))); (first | (focus (simp only [go_sem, ↓reduceIte, Nat.reduceEqDiff, Nat.reduceBEq, Nat.reduceAdd, Nat.reduceLeDiff, Nat.reduceMul, Nat.reduceLT, Int.reduceToNat, reduceCtorEq, Int.reduceBEq, Int.reduceBNe, Int.reduceLT, Int.reduceLE, Int.reduceGT, Int.reduceGE, t1, t8, t11, t12, t17, t65, t66, t67, hk1, hk1', hk2, hk5, hrow, hrn, w1, Nat.zero_add, hpn] <;> rfl)) | exact rfl); (first | (fail_if_success (show okD _ _ _ _ _ _ _ _ _)) | (first | exact okT | exact okN | exact okE rfl)); (first | (fail_if_success (show Bel _ _)) | (focus first | exact .val _ | (simp [oneOf, Bel_iff_tup, Bel_iff_agg, Bel_iff_rsl, Bel_iff_fn, Bel_iff_rptr, Bel_val]; done)))) | refine thenQ_n ?_ | refine thenQ_r ?_ | refine thenQ_e ?_ | refine blockQ_n ?_ | refine blockQ_r ?_ | refine blockQ_e ?_ | (apply blockQ_o; (exact rfl)) | refine Awp.seq ?_ | refine Awp.skip ?_ | refine Awp.block ?_ | refine reg (fun s => s == 12 || s == 14 || s == 17) ?_ | (apply drwE mixed (fun s => s == 12 || s == 14 || s == 17); (kernel_rfl)) | refine fin ?_ | refine Awp.ret ?_ | refine Awp.exit ?_ | ((first | (apply off; (exact rfl)) | apply condF); (first | (focus (simp only [go_sem, ↓reduceIte, Nat.reduceEqDiff, Nat.reduceBEq, Nat.reduceAdd, Nat.reduceLeDiff, Nat.reduceMul, Nat.reduceLT, Int.reduceToNat, reduceCtorEq, Int.reduceBEq, Int.reduceBNe, Int.reduceLT, Int.reduceLE, Int.reduceGT, Int.reduceGE, t1, t8, t11, t12, t17, t65, t66, t67, hk1, hk1', hk2, hk5, hrow, hrn, w1, Nat.zero_add, hpn] <;> rfl)) | exact rfl)))
                  rw [hset, hnr]
                  exact roundE_n0 ((Lk.refl _).set (BelO_plain (plainRwN _ _)))
                    ⟨by rw [List.length_set]; exact hBl, hGB.set hbl _, (heldO (Ne.symm hgl) k0).1 _, hk1.1 _, (heldO hlx k2).1 _, hkv.1 _⟩
                · rintro B ⟨hBl, hGB, k0, k1, k2, k5⟩
                  rw [List.take_length] at k1
                  have hlast : rwN c.l.length (fun i => room c.l g i - if i ∈ pth c.l k then v else 0) = rwN c.l.length (room c.l (grant c.l req g k)) := rwN_congr fun i _ => (hrs i).symm
                  rw [hlast] at k1
                  repeat' (first | refine spD (fun _ => ?_) (fun _ => ?_) | refine spF (fun _ => ?_) (fun _ => ?_) | (apply gT; (exact rfl)) | (apply off; (exact rfl); (exact rfl)) | (apply condT; (exact rfl)) | (apply condF; (exact rfl)) | ((first | (apply stp0; (exact rfl); (exact rfl)) | (apply stpN0; (exact rfl)) | apply gT | apply condT | ((first | apply bodyQ_d0 | apply bodyQ_d1 | apply bodyQ_d2 | apply bodyQ_d3 | apply bodyQ_d4); (exact .inr rfl); (rw [Try.results61]))); (first | (focus (simp only [go_sem, ↓reduceIte, Nat.reduceEqDiff, Nat.reduceBEq, Nat.reduceAdd, Nat.reduceLeDiff, Nat.reduceMul, Nat.reduceLT, Int.reduceToNat, reduceCtorEq, Int.reduceBEq, Int.reduceBNe, Int.reduceLT, Int.reduceLE, Int.reduceGT, Int.reduceGE, t1, t8, t11, t12, t17, t65, t66, t67] <;> rfl)) | exact rfl); (first | (fail_if_success (show okD _ _ _ _ _ _ _ _ _)) | (first | exact okT | exact okN | exact okE rfl)); (first | (fail_if_success (show Bel _ _)) | (focus first | exact .val _ | (simp [oneOf, Bel_iff_tup, Bel_iff_agg, Bel_iff_rsl, Bel_iff_fn, Bel_iff_rptr, Bel_val]; done)))) | refine thenQ_n ?_ | refine thenQ_r ?_ | refine thenQ_e ?_ | refine blockQ_n ?_ | refine blockQ_r ?_ | refine blockQ_e ?_ | (apply blockQ_o; (exact rfl)) | refine Awp.seq ?_ | refine Awp.skip ?_ | refine Awp.block ?_ | refine reg (fun s => s == 12 || s == 14 || s == 17) ?_ | (apply drwE mixed (fun s => s == 12 || s == 14 || s == 17); (kernel_rfl)) | refine fin ?_ | refine Awp.ret ?_ | refine Awp.exit ?_ | ((first | (apply off; (exact rfl)) | apply condF); (first | (focus (simp only [go_sem, ↓reduceIte, Nat.reduceEqDiff, Nat.reduceBEq, Nat.reduceAdd, Nat.reduceLeDiff, Nat.reduceMul, Nat.reduceLT, Int.reduceToNat, reduceCtorEq, Int.reduceBEq, Int.reduceBNe, Int.reduceLT, Int.reduceLE, Int.reduceGT, Int.reduceGE, t1, t8, t11, t12, t17, t65, t66, t67] <;> rfl)) | exact rfl)))
                  all_goals first | contradiction | (exfalso; omega) | skip
                  refine ⟨j + 1, ⟨by omega, ?_, ?_, ?_, ⟨?_, ?_, ?_, ?_⟩, (hGB.app _).app _, ?_, ?_, ?_⟩, by omega⟩
                  · (first | (focus (simp only [go_sem, ↓reduceIte, Nat.reduceEqDiff, Nat.reduceBEq, Nat.reduceAdd, Nat.reduceLeDiff, Nat.reduceMul, Nat.reduceLT, Int.reduceToNat, reduceCtorEq, Int.reduceBEq, Int.reduceBNe, Int.reduceLT, Int.reduceLE, Int.reduceGT, Int.reduceGE, wsucc hlt hnm]; done)) | (focus (simp only [go_sem, ↓reduceIte, Nat.reduceEqDiff, Nat.reduceBEq, Nat.reduceAdd, Nat.reduceLeDiff, Nat.reduceMul, Nat.reduceLT, Int.reduceToNat, reduceCtorEq, Int.reduceBEq, Int.reduceBNe, Int.reduceLT, Int.reduceLE, Int.reduceGT, Int.reduceGE, wsucc hlt hnm]; rfl)) | rfl)
                  · (first | (focus (simp only [go_sem, ↓reduceIte, Nat.reduceEqDiff, Nat.reduceBEq, Nat.reduceAdd, Nat.reduceLeDiff, Nat.reduceMul, Nat.reduceLT, Int.reduceToNat, reduceCtorEq, Int.reduceBEq, Int.reduceBNe, Int.reduceLT, Int.reduceLE, Int.reduceGT, Int.reduceGE, t66]; done)) | (focus (simp only [go_sem, ↓reduceIte, Nat.reduceEqDiff, Nat.reduceBEq, Nat.reduceAdd, Nat.reduceLeDiff, Nat.reduceMul, Nat.reduceLT, Int.reduceToNat, reduceCtorEq, Int.reduceBEq, Int.reduceBNe, Int.reduceLT, Int.reduceLE, Int.reduceGT, Int.reduceGE, t66]; rfl)) | rfl)
                  · (first | (focus (simp only [go_sem, ↓reduceIte, Nat.reduceEqDiff, Nat.reduceBEq, Nat.reduceAdd, Nat.reduceLeDiff, Nat.reduceMul, Nat.reduceLT, Int.reduceToNat, reduceCtorEq, Int.reduceBEq, Int.reduceBNe, Int.reduceLT, Int.reduceLE, Int.reduceGT, Int.reduceGE, t65]; done)) | (focus (simp only [go_sem, ↓reduceIte, Nat.reduceEqDiff, Nat.reduceBEq, Nat.reduceAdd, Nat.reduceLeDiff, Nat.reduceMul, Nat.reduceLT, Int.reduceToNat, reduceCtorEq, Int.reduceBEq, Int.reduceBNe, Int.reduceLT, Int.reduceLE, Int.reduceGT, Int.reduceGE, t65]; rfl)) | rfl)
                  · (first | (focus (simp only [go_sem, ↓reduceIte, Nat.reduceEqDiff, Nat.reduceBEq, Nat.reduceAdd, Nat.reduceLeDiff, Nat.reduceMul, Nat.reduceLT, Int.reduceToNat, reduceCtorEq, Int.reduceBEq, Int.reduceBNe, Int.reduceLT, Int.reduceLE, Int.reduceGT, Int.reduceGE, t1]; done)) | (focus (simp only [go_sem, ↓reduceIte, Nat.reduceEqDiff, Nat.reduceBEq, Nat.reduceAdd, Nat.reduceLeDiff, Nat.reduceMul, Nat.reduceLT, Int.reduceToNat, reduceCtorEq, Int.reduceBEq, Int.reduceBNe, Int.reduceLT, Int.reduceLE, Int.reduceGT, Int.reduceGE, t1]; rfl)) | rfl)
                  · (first | (focus (simp only [go_sem, ↓reduceIte, Nat.reduceEqDiff, Nat.reduceBEq, Nat.reduceAdd, Nat.reduceLeDiff, Nat.reduceMul, Nat.reduceLT, Int.reduceToNat, reduceCtorEq, Int.reduceBEq, Int.reduceBNe, Int.reduceLT, Int.reduceLE, Int.reduceGT, Int.reduceGE, t8]; done)) | (focus (simp only [go_sem, ↓reduceIte, Nat.reduceEqDiff, Nat.reduceBEq, Nat.reduceAdd, Nat.reduceLeDiff, Nat.reduceMul, Nat.reduceLT, Int.reduceToNat, reduceCtorEq, Int.reduceBEq, Int.reduceBNe, Int.reduceLT, Int.reduceLE, Int.reduceGT, Int.reduceGE, t8]; rfl)) | rfl)
                  · (first | (focus (simp only [go_sem, ↓reduceIte, Nat.reduceEqDiff, Nat.reduceBEq, Nat.reduceAdd, Nat.reduceLeDiff, Nat.reduceMul, Nat.reduceLT, Int.reduceToNat, reduceCtorEq, Int.reduceBEq, Int.reduceBNe, Int.reduceLT, Int.reduceLE, Int.reduceGT, Int.reduceGE, t11]; done)) | (focus (simp only [go_sem, ↓reduceIte, Nat.reduceEqDiff, Nat.reduceBEq, Nat.reduceAdd, Nat.reduceLeDiff, Nat.reduceMul, Nat.reduceLT, Int.reduceToNat, reduceCtorEq, Int.reduceBEq, Int.reduceBNe, Int.reduceLT, Int.reduceLE, Int.reduceGT, Int.reduceGE, t11]; rfl)) | rfl)
                  · (first | (focus (simp only [go_sem, ↓reduceIte, Nat.reduceEqDiff, Nat.reduceBEq, Nat.reduceAdd, Nat.reduceLeDiff, Nat.reduceMul, Nat.reduceLT, Int.reduceToNat, reduceCtorEq, Int.reduceBEq, Int.reduceBNe, Int.reduceLT, Int.reduceLE, Int.reduceGT, Int.reduceGE, t12]; done)) | (focus (simp only [go_sem, ↓reduceIte, Nat.reduceEqDiff, Nat.reduceBEq, Nat.reduceAdd, Nat.reduceLeDiff, Nat.reduceMul, Nat.reduceLT, Int.reduceToNat, reduceCtorEq, Int.reduceBEq, Int.reduceBNe, Int.reduceLT, Int.reduceLE, Int.reduceGT, Int.reduceGE, t12]; rfl)) | rfl)
                  · rw [hnx]; exact (held k0).2.2.1 _ _
                  · rw [hnx]; exact (held k1).2.2.1 _ _
                  · exact (held k2).2.2.1 _ _
                · intro B p _ h; exact h.elim
                · intro id B p _ h; exact h.elim
              · intro B p _ h; exact h.elim
              · intro id B p _ h; exact h.elim
            · have hjn : j = c.l.length := by omega
              subst hjn
              rw [show (ordL r c.l.length).take c.l.length = ordL r c.l.length from List.take_of_length_le (by omega)] at hGd kg kl
              repeat' (first | refine spD (fun _ => ?_) (fun _ => ?_) | refine spF (fun _ => ?_) (fun _ => ?_) | (apply gT; (exact rfl)) | (apply off; (exact rfl); (exact rfl)) | (apply condT; (exact rfl)) | (apply condF; (exact rfl)) | ((first | (apply stp0; (exact rfl); (exact rfl)) | (apply stpN0; (exact rfl)) | apply gT | apply condT); (first | (focus (simp only [go_sem, ↓reduceIte, Nat.reduceEqDiff, Nat.reduceBEq, Nat.reduceAdd, Nat.reduceLeDiff, Nat.reduceMul, Nat.reduceLT, Int.reduceToNat, reduceCtorEq, Int.reduceBEq, Int.reduceBNe, Int.reduceLT, Int.reduceLE, Int.reduceGT, Int.reduceGE, t67, t66, t65, t1, t8, t11, t12] <;> rfl)) | exact rfl); (first | (fail_if_success (show okD _ _ _ _ _ _ _ _ _)) | (first | exact okT | exact okN | exact okE rfl))) | refine thenQ_n ?_ | refine thenQ_r ?_ | refine thenQ_e ?_ | refine blockQ_n ?_ | refine blockQ_r ?_ | refine blockQ_e ?_ | (apply blockQ_o; (exact rfl)) | refine Awp.seq ?_ | refine Awp.skip ?_ | refine Awp.block ?_ | refine reg (fun s => s == 12 || s == 14 || s == 17) ?_ | (apply drwE mixed (fun s => s == 12 || s == 14 || s == 17); (kernel_rfl)) | refine fin ?_ | refine Awp.ret ?_ | refine Awp.exit ?_ | ((first | (apply off; (exact rfl)) | apply condF); (first | (focus (simp only [go_sem, ↓reduceIte, Nat.reduceEqDiff, Nat.reduceBEq, Nat.reduceAdd, Nat.reduceLeDiff, Nat.reduceMul, Nat.reduceLT, Int.reduceToNat, reduceCtorEq, Int.reduceBEq, Int.reduceBNe, Int.reduceLT, Int.reduceLE, Int.reduceGT, Int.reduceGE, t67, t66, t65, t1, t8, t11, t12] <;> rfl)) | exact rfl)))
              all_goals first | contradiction | (exfalso; omega) | skip
              exact bodyQ_frz2G (.inr rfl) (by rw [Try.results61]; simp only [go_sem, ↓reduceIte, Nat.reduceEqDiff, Nat.reduceBEq, Nat.reduceAdd, Nat.reduceLeDiff, Nat.reduceMul, Nat.reduceLT, Int.reduceToNat, reduceCtorEq, Int.reduceBEq, Int.reduceBNe, Int.reduceLT, Int.reduceLE, Int.reduceGT, Int.reduceGE, t11]; rfl) hG kg hbg (by rw [ints_len, hGd.len]) (plainInts _)
      · rw [if_neg hE0]
        refine CallsTo.nil2 ?_
        simp only [treeV, Cb.cs, List.cons_append, List.nil_append] at ho hca
        refine ACalls.of_body Try.func61 rfl (by kernel_rfl) (by rw [Try.ntmps61]; simp) ?_; rw [Try.ntmps61]
        repeat' ((fail_if_success (apply stopR (id := 9))); (fail_if_success (apply stopS (id := 9))); first | refine spD (fun _ => ?_) (fun _ => ?_) | refine spF (fun _ => ?_) (fun _ => ?_) | (apply gT; (exact rfl)) | (apply off; (exact rfl); (exact rfl)) | (apply condT; (exact rfl)) | (apply condF; (exact rfl)) | ((first | (apply stp0; (exact rfl); (exact rfl)) | (apply stpN0; (exact rfl)) | apply gT | apply condT | ((first | apply bodyQ_d0 | apply bodyQ_d1 | apply bodyQ_d2 | apply bodyQ_d3 | apply bodyQ_d4); (exact .inr rfl); (rw [Try.results61]))); (first | (focus (simp only [go_sem, ↓reduceIte, Nat.reduceEqDiff, Nat.reduceBEq, Nat.reduceAdd, Nat.reduceLeDiff, Nat.reduceMul, Nat.reduceLT, Int.reduceToNat, reduceCtorEq, Int.reduceBEq, Int.reduceBNe, Int.reduceLT, Int.reduceLE, Int.reduceGT, Int.reduceGE, Cb.cs, hvl, hrl, hr, hcl, hE0] <;> rfl)) | exact rfl); (first | (fail_if_success (show okD _ _ _ _ _ _ _ _ _)) | (first | exact okT | exact okN | exact okE rfl)); (first | (fail_if_success (show Bel _ _)) | (focus first | exact .val _ | (simp [oneOf, Bel_iff_tup, Bel_iff_agg, Bel_iff_rsl, Bel_iff_fn, Bel_iff_rptr, Bel_val]; done)))) | (apply calTo0; (exact rfl); (iterate 2 (simp only [go_sem, ↓reduceIte, Nat.reduceEqDiff, Nat.reduceBEq, Nat.reduceAdd, Nat.reduceLeDiff, Nat.reduceMul, Nat.reduceLT, Int.reduceToNat, reduceCtorEq, Int.reduceBEq, Int.reduceBNe, Int.reduceLT, Int.reduceLE, Int.reduceGT, Int.reduceGE, Cb.cs, hvl, hrl, hr, hcl, hE0]; rfl)); (first | exact ho _ | exact hca _); (first | exact okT | exact okN | exact okE rfl)) | refine thenQ_n ?_ | refine thenQ_r ?_ | refine thenQ_e ?_ | refine blockQ_n ?_ | refine blockQ_r ?_ | refine blockQ_e ?_ | (apply blockQ_o; (exact rfl)) | refine Awp.seq ?_ | refine Awp.skip ?_ | refine Awp.block ?_ | refine reg (fun s => s == 12 || s == 14 || s == 17) ?_ | (apply drwE mixed (fun s => s == 12 || s == 14 || s == 17); (kernel_rfl)) | refine fin ?_ | refine Awp.ret ?_ | refine Awp.exit ?_ | ((first | (apply off; (exact rfl)) | apply condF); (first | (focus (simp only [go_sem, ↓reduceIte, Nat.reduceEqDiff, Nat.reduceBEq, Nat.reduceAdd, Nat.reduceLeDiff, Nat.reduceMul, Nat.reduceLT, Int.reduceToNat, reduceCtorEq, Int.reduceBEq, Int.reduceBNe, Int.reduceLT, Int.reduceLE, Int.reduceGT, Int.reduceGE, Cb.cs, hvl, hrl, hr, hcl, hE0] <;> rfl)) | exact rfl)))
        all_goals first | rfl | contradiction | (exfalso; omega) | skip
    · have hE : shrE c req r = 17 := by unfold shrE; rw [if_neg (fun n => n h), if_pos hr]
      rw [hE, if_neg (by simp)]
      refine CallsTo.nil2 ?_
      have hr' : ¬ (r.length : Int) = (c.l.length : Int) := by omega
      simp only [treeV, Cb.cs, List.cons_append, List.nil_append] at ho
      refine ACalls.of_body Try.func61 rfl (by kernel_rfl) (by rw [Try.ntmps61]; simp) ?_; rw [Try.ntmps61]
      repeat' ((fail_if_success (apply stopR (id := 6))); (fail_if_success (apply stopS (id := 6))); first | refine spD (fun _ => ?_) (fun _ => ?_) | refine spF (fun _ => ?_) (fun _ => ?_) | (apply gT; (exact rfl)) | (apply off; (exact rfl); (exact rfl)) | (apply condT; (exact rfl)) | (apply condF; (exact rfl)) | ((first | (apply stp0; (exact rfl); (exact rfl)) | (apply stpN0; (exact rfl)) | apply gT | apply condT | ((first | apply bodyQ_d0 | apply bodyQ_d1 | apply bodyQ_d2 | apply bodyQ_d3 | apply bodyQ_d4); (exact .inr rfl); (rw [Try.results61]))); (first | (focus (simp only [go_sem, ↓reduceIte, Nat.reduceEqDiff, Nat.reduceBEq, Nat.reduceAdd, Nat.reduceLeDiff, Nat.reduceMul, Nat.reduceLT, Int.reduceToNat, reduceCtorEq, Int.reduceBEq, Int.reduceBNe, Int.reduceLT, Int.reduceLE, Int.reduceGT, Int.reduceGE, Cb.cs, hvl, hrl, hr, hr', hcl] <;> rfl)) | exact rfl); (first | (fail_if_success (show okD _ _ _ _ _ _ _ _ _)) | (first | exact okT | exact okN | exact okE rfl)); (first | (fail_if_success (show Bel _ _)) | (focus first | exact .val _ | (simp [oneOf, Bel_iff_tup, Bel_iff_agg, Bel_iff_rsl, Bel_iff_fn, Bel_iff_rptr, Bel_val]; done)))) | (apply calTo0; (exact rfl); (iterate 2 (simp only [go_sem, ↓reduceIte, Nat.reduceEqDiff, Nat.reduceBEq, Nat.reduceAdd, Nat.reduceLeDiff, Nat.reduceMul, Nat.reduceLT, Int.reduceToNat, reduceCtorEq, Int.reduceBEq, Int.reduceBNe, Int.reduceLT, Int.reduceLE, Int.reduceGT, Int.reduceGE, Cb.cs, hvl, hrl, hr, hr', hcl]; rfl)); (first | exact ho _); (first | exact okT | exact okN | exact okE rfl)) | refine thenQ_n ?_ | refine thenQ_r ?_ | refine thenQ_e ?_ | refine blockQ_n ?_ | refine blockQ_r ?_ | refine blockQ_e ?_ | (apply blockQ_o; (exact rfl)) | refine Awp.seq ?_ | refine Awp.skip ?_ | refine Awp.block ?_ | refine reg (fun s => s == 12 || s == 14 || s == 17) ?_ | (apply drwE mixed (fun s => s == 12 || s == 14 || s == 17); (kernel_rfl)) | refine fin ?_ | refine Awp.ret ?_ | refine Awp.exit ?_ | ((first | (apply off; (exact rfl)) | apply condF); (first | (focus (simp only [go_sem, ↓reduceIte, Nat.reduceEqDiff, Nat.reduceBEq, Nat.reduceAdd, Nat.reduceLeDiff, Nat.reduceMul, Nat.reduceLT, Int.reduceToNat, reduceCtorEq, Int.reduceBEq, Int.reduceBNe, Int.reduceLT, Int.reduceLE, Int.reduceGT, Int.reduceGE, Cb.cs, hvl, hrl, hr, hr', hcl] <;> rfl)) | exact rfl)))
      all_goals first | rfl | contradiction | (exfalso; omega) | skip
  · have hE : shrE c req r = c.code := by unfold shrE; rw [if_pos h]
    rw [hE, if_neg h]
    refine CallsTo.nil2 ?_
    refine ACalls.of_body Try.func61 rfl (by kernel_rfl) (by rw [Try.ntmps61]; simp) ?_; rw [Try.ntmps61]
    repeat' ((fail_if_success (apply stopR (id := 4))); (fail_if_success (apply stopS (id := 4))); first | refine spD (fun _ => ?_) (fun _ => ?_) | refine spF (fun _ => ?_) (fun _ => ?_) | (apply gT; (exact rfl)) | (apply off; (exact rfl); (exact rfl)) | (apply condT; (exact rfl)) | (apply condF; (exact rfl)) | ((first | (apply stp0; (exact rfl); (exact rfl)) | (apply stpN0; (exact rfl)) | apply gT | apply condT | ((first | apply bodyQ_d0 | apply bodyQ_d1 | apply bodyQ_d2 | apply bodyQ_d3 | apply bodyQ_d4); (exact .inr rfl); (rw [Try.results61]))); (first | (focus (simp only [go_sem, ↓reduceIte, Nat.reduceEqDiff, Nat.reduceBEq, Nat.reduceAdd, Nat.reduceLeDiff, Nat.reduceMul, Nat.reduceLT, Int.reduceToNat, reduceCtorEq, Int.reduceBEq, Int.reduceBNe, Int.reduceLT, Int.reduceLE, Int.reduceGT, Int.reduceGE, Cb.cs, h] <;> rfl)) | exact rfl); (first | (fail_if_success (show okD _ _ _ _ _ _ _ _ _)) | (first | exact okT | exact okN | exact okE rfl)); (first | (fail_if_success (show Bel _ _)) | (focus first | exact .val _ | (simp [oneOf, Bel_iff_tup, Bel_iff_agg, Bel_iff_rsl, Bel_iff_fn, Bel_iff_rptr, Bel_val]; done)))) | (apply calTo0; (exact rfl); (iterate 2 (simp only [go_sem, ↓reduceIte, Nat.reduceEqDiff, Nat.reduceBEq, Nat.reduceAdd, Nat.reduceLeDiff, Nat.reduceMul, Nat.reduceLT, Int.reduceToNat, reduceCtorEq, Int.reduceBEq, Int.reduceBNe, Int.reduceLT, Int.reduceLE, Int.reduceGT, Int.reduceGE, Cb.cs, h]; rfl)); (first | exact open_no _ c h); (first | exact okT | exact okN | exact okE rfl)) | refine thenQ_n ?_ | refine thenQ_r ?_ | refine thenQ_e ?_ | refine blockQ_n ?_ | refine blockQ_r ?_ | refine blockQ_e ?_ | (apply blockQ_o; (exact rfl)) | refine Awp.seq ?_ | refine Awp.skip ?_ | refine Awp.block ?_ | refine reg (fun s => s == 12 || s == 14 || s == 17) ?_ | (apply drwE mixed (fun s => s == 12 || s == 14 || s == 17); (kernel_rfl)) | refine fin ?_ | refine Awp.ret ?_ | refine Awp.exit ?_ | ((first | (apply off; (exact rfl)) | apply condF); (first | (focus (simp only [go_sem, ↓reduceIte, Nat.reduceEqDiff, Nat.reduceBEq, Nat.reduceAdd, Nat.reduceLeDiff, Nat.reduceMul, Nat.reduceLT, Int.reduceToNat, reduceCtorEq, Int.reduceBEq, Int.reduceBNe, Int.reduceLT, Int.reduceLE, Int.reduceGT, Int.reduceGE, Cb.cs, h] <;> rfl)) | exact rfl)))
    all_goals first | rfl | contradiction | (exfalso; omega) | skip

end Go.Proofs.Ytphfdbmbdaninaa.Ab
