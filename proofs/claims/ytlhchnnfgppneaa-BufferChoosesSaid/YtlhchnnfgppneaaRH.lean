/- Best of the document: the region that goes on with one parcel more, in no order. -/
import Derived.Test.YtlhchnnfgppneaaRG
import Derived.Test.YtlhchnnfgppneaaS5
namespace Go.Proofs.Ytlhchnnfgppneaa.Ab
open Go Go.RowKit Go.Proofs
set_option linter.unusedSimpArgs false
set_option linter.unusedVariables false
attribute [local irreducible] Awp wpO thenQ blockQ bodyQ ACalls stepA

def tlD : Code → Code
  | .seq _ y => y
  | c => c
def hdD : Code → Code
  | .seq x _ => x
  | c => c
def inD : Code → Code
  | .block _ c => c
  | .loop c => c
  | c => c

/-- what an append of some elements hands back -/
def apV (H : Hp) (a : AV) (es xs : List (List AV)) (e : TypeId) : AV × Hp := if xs = [] then (a, H) else (.msl H.length 0 (es.length + xs.length), ownK H a ++ [.cells (es ++ xs) e])
theorem apV_own {lo : Nat} {t : TypeId} {H : Hp} {a : AV} {es xs : List (List AV)} (h : Own lo t H a es) (hl : lo ≤ H.length) : Own lo t (apV H a es xs t).2 (apV H a es xs t).1 (es ++ xs) := by
  unfold apV
  by_cases hx : xs = []
  · rw [if_pos hx, hx, List.append_nil]; exact h
  · rw [if_neg hx]
    have e : es.length + xs.length = (es ++ xs).length := by simp
    rw [e]
    refine .row (by simp [hx]) hl ?_
    rw [show H.length = (ownK H a).length from (ownK_len H a).symm]
    exact get_new _ _
theorem apV_grow {lo : Nat} {t : TypeId} {H H0 : Hp} {a : AV} {es xs : List (List AV)} (h : Own lo t H a es) (hl : H0.length ≤ lo) (hG : Grow H0 H) : Grow H0 (apV H a es xs t).2 := by
  unfold apV
  split
  · exact hG
  · exact (h.grow hl hG).app _
theorem apV_other {lo : Nat} {t : TypeId} {H : Hp} {a : AV} {es xs : List (List AV)} (h : Own lo t H a es) {j : Nat} {ob : AObj} (hj : H[j]? = some ob) (hne : ob ≠ .cells es t) : (apV H a es xs t).2[j]? = some ob := by
  unfold apV
  split
  · exact hj
  · exact (held (h.other hj hne)).2.1 _
theorem app_apV {e : TypeId} {kk b lo : Nat} {H : Hp} {a : AV} {es xs : List (List AV)} {ex : Bool} (hO : Own lo e H a es) (hk : ∀ x ∈ es, x.length = kk) (hxk : ∀ x ∈ xs, x.length = kk) (hc : ∀ x ∈ xs, x.all AV.isCell = true) (hb : (es.length + xs.length) * b ≤ 140737488355328) :
    appendB e kk b a (.rsl xs ex) H = some (apV H a es xs e) := by
  have hsrc : srcA kk (.rsl xs ex) H = some xs := by
    unfold srcA
    simp only
    rw [if_pos (by rw [List.all_eq_true]; intro e he; simpa using hxk e he)]
  unfold appendB
  rw [hsrc]
  unfold apV
  by_cases h0 : xs = []
  · subst h0
    simp only [List.length_nil, if_true]
    cases hO <;> rfl
  · have hne : ¬ xs.length = 0 := fun h => h0 (List.eq_nil_of_length_eq_zero h)
    simp only [if_neg hne, if_neg h0]
    cases hO with
    | nil =>
      simp only [List.length_nil, Nat.zero_add] at hb ⊢
      rw [if_pos hb]
      rfl
    | fix =>
      simp only
      rw [if_pos ⟨by rw [List.all_eq_true]; intro e he; simpa using hk e he, hb⟩]
      rfl
    | row hne2 hlo hbb =>
      have hpos : 0 < es.length := by
        rcases Nat.eq_zero_or_pos es.length with h | h
        · exact absurd (List.eq_nil_of_length_eq_zero h) hne2
        · exact h
      simp only [hbb]
      rw [if_pos ⟨by trivial, Nat.le_refl _, hpos, by rw [List.all_eq_true]; intro e he; simpa using hk e he, by rw [List.all_eq_true]; exact hc, hb⟩, List.take_length]
      rfl

def zcs (n : Nat) (x : Ch) : List AV := [.rsl (ints (idxL x.bits n)) false, iv x.worth, iv x.size]
def DfsP (n : Nat) (Φ : Ch → Prop) (K : Hp) (o : Nat) (v : AV) (K' : Hp) : Prop := (∃ x, Φ x ∧ v = .agg (zcs n x)) ∧ K.length ≤ K'.length ∧ ∀ j, j < K.length → j ≠ o → K'[j]? = K[j]?

section
variable (H : Hp) (l : List Pr) (ex : Bool) (room : Int) (i B : Nat) (Lc : List Int) (c d : Ch) (p : Pr) (Φ : Ch → Prop) (T0 : Env)
def V9 : Nat → AV
  | 0 => .rsl (prs l) ex
  | 1 => iv room
  | 2 => .rsl [] true
  | 3 => .mptr B 0 0
  | 4 => .rsl (ints Lc) false
  | 6 => iv i
  | 7 => .rsl [[iv i]] true
  | 9 => .mptr B 0 1
  | 10 => iv c.worth
  | 11 => .rsl (prs l) ex
  | 12 => iv i
  | 13 => .rptr [iv p.size, iv p.worth] 0
  | 14 => .rptr [iv p.size, iv p.worth] 1
  | 15 => iv p.worth
  | 16 => iv d.worth
  | 17 => .mptr B 0 2
  | 18 => iv c.size
  | 19 => .rsl (prs l) ex
  | 20 => iv i
  | 21 => .rptr [iv p.size, iv p.worth] 0
  | 22 => .rptr [iv p.size, iv p.worth] 0
  | 23 => iv p.size
  | 24 => iv d.size
  | _ => nilS
def pure9 (k : Nat) : Bool := decide (k < 25) && k != 5 && k != 8
structure Inv9 (L : Nat → Bool) (T : Env) (K : Hp) : Prop where
  low : ∀ s, s < 10 → T s = T0 s
  tab : ∀ k, pure9 k = true → L k = true → T (k + 42) = V9 l ex room i B Lc c d p k
  gr : Grow H K
  a5 : L 5 = true → L 8 = false → Own H.length 3 K (T 47) (ints Lc)
  b5 : L 8 = true → L 5 = true
  a8 : L 8 = true → ∃ o, T 50 = .msl o 0 (Lc.length + 1) ∧ H.length ≤ o ∧ (L 26 = false → K[o]? = some (.cells (ints (Lc ++ [(i : Int)])) 3))
  a25 : L 25 = true → L 8 = true ∧ T 67 = .agg [T 50, iv d.worth, iv d.size]
  b26 : L 26 = true → L 8 = true
  b28 : L 28 = true → L 27 = true
  a26 : L 26 = true → ∃ z, Φ z ∧ T 68 = .agg (zcs l.length z)
  a27 : L 27 = true → ∃ q e, T 10 = .mptr q 0 0 ∧ H.length ≤ q ∧ K[q]? = some (.cells [e] 153) ∧ (L 28 = true → ∃ z, Φ z ∧ e = zcs l.length z) ∧ (L 28 = false → e = [nilS, iv 0, iv 0])
variable {H l ex room i B Lc c d p Φ T0}
theorem Inv9.pure {L T K} (h : Inv9 H l ex room i B Lc c d p Φ T0 L T K) {k : Nat} (hk : pure9 k = true) : Inv9 H l ex room i B Lc c d p Φ T0 (setL L k) (upd T (k + 42) (V9 l ex room i B Lc c d p k)) K := by
  have hk2 : k < 25 ∧ k ≠ 5 ∧ k ≠ 8 := by simpa [pure9, and_assoc] using hk
  obtain ⟨k1, k2, k3⟩ := hk2
  have s0 : ∀ m, m ≠ k → setL L k m = L m := fun m hm => by simp [setL, hm]
  have u0 : ∀ m, m ≠ k + 42 → upd T (k + 42) (V9 l ex room i B Lc c d p k) m = T m := fun m hm => by simp [upd, hm]
  obtain ⟨h1, h2, h3, h4, h5, h6, h7, h8, h8b, h9, h10⟩ := h
  refine ⟨fun s hs => by rw [u0 s (by omega)]; exact h1 s hs, fun m hm hL => ?_, h3, ?_, ?_, ?_, ?_, ?_, ?_, ?_, ?_⟩
  · by_cases e : m = k
    · subst e; simp [upd]
    · rw [s0 m e] at hL
      rw [u0 _ (by omega)]
      exact h2 m hm hL
  all_goals rw [s0 _ (by omega)]
  · rw [s0 _ (by omega), u0 _ (by omega)]; exact h4
  · rw [s0 _ (by omega)]; exact h5
  · rw [s0 _ (by omega), u0 _ (by omega)]; exact h6
  · rw [s0 _ (by omega), u0 _ (by omega), u0 _ (by omega)]; exact h7
  · rw [s0 _ (by omega)]; exact h8
  · rw [s0 _ (by omega)]; exact h8b
  · rw [u0 _ (by omega)]; exact h9
  · rw [s0 _ (by omega), u0 _ (by omega)]; exact h10
end

set_option maxRecDepth 8000 in
set_option maxHeartbeats 8000000 in
theorem dfs9 {H : Hp} {l : List Pr} {ex : Bool} {room : Int} {i B : Nat} {Lc : List Int} {c d : Ch} {p : Pr} {Φ : Ch → Prop} {T : Env} (t0 : T 0 = .rsl (prs l) ex) (t1 : T 1 = iv room) (t5 : T 5 = .mptr B 0 0) (t9 : T 9 = iv i)
    (hB : H[B]? = some (.cells [[.rsl (ints Lc) false, iv c.worth, iv c.size]] 153)) (hp : l[i]? = some p) (hl : l.length ≤ 11) (hLc : Lc.length ≤ 11) (ww : IntKind.i64.wrap (c.worth + p.worth) = d.worth) (wz : IntKind.i64.wrap (c.size + p.size) = d.size)
    (hrec : ∀ K o, K[o]? = some (.cells (ints (Lc ++ [(i : Int)])) 3) → ACalls Try.prog 88 [.rsl (prs l) ex, iv room, .agg [.msl o 0 (Lc.length + 1), iv d.worth, iv d.size]] K (DfsP l.length Φ K o)) :
    Awp Try.prog 90 none (hdD (tlD (inD (hdD (tlD (inD (inD (tlD (hdD (tlD (tlD (tlD (tlD (Try.f88.body.getD .skip)))))))))))))) T H (fun e T' K => e = .normal ∧ (∀ s, s < 10 → T' s = T s) ∧ Grow H K ∧ ∃ q z, Φ z ∧ T' 10 = .mptr q 0 0 ∧ H.length ≤ q ∧ K[q]? = some (.cells [zcs l.length z] 153)) := by
  have hpl := prs_len l
  have hil := (List.getElem?_eq_some_iff.1 hp).1
  have hpc := prs_at hp
  have hil2 : (i : Int) < l.length := Int.ofNat_lt.2 hil
  have hi0 : (0 : Int) ≤ i := by omega
  have hLn := ints_len Lc
  have hones : ∀ v : List Int, ∀ e ∈ ints v, e.length = 1 := fun v e he => by
    obtain ⟨x, _, rfl⟩ := List.mem_map.1 he
    rfl
  have hcell : ∀ v : List Int, ∀ e ∈ ints v, e.all AV.isCell = true := fun v e he => by
    obtain ⟨x, _, rfl⟩ := List.mem_map.1 he
    rfl
  have hap : ints Lc ++ [[iv (i : Int)]] = ints (Lc ++ [(i : Int)]) := by simp [ints]
  unfold Try.f88
  simp only [tlD, hdD, inD, Option.getD_some]
  refine Awp.anyInvO mixed (Inv9 H l ex room i B Lc c d p Φ T) (by kernel_rfl) ?_ ?_ (fun L T' J hL hI => ⟨rfl, hI.low, hI.gr, ?_⟩)
  · exact ⟨fun _ _ => rfl, by simp, Grow.refl _, by simp, by simp, by simp, by simp, by simp, by simp, by simp, by simp⟩
  · simp only [AllIx]
    refine ⟨?_, ?_, ?_, ?_, ?_, ?_, ?_, ?_, ?_, ?_, ?_, ?_, ?_, ?_, ?_, ?_, ?_, ?_, ?_, ?_, ?_, ?_, ?_, ?_, ?_, ?_, ?_, ?_, ?_, trivial⟩
    all_goals
      intro L T' J hL hq hI
      simp [Region.binds] at hq
      have q0 := (hI.low 0 (by omega)).trans t0
      have q1 := (hI.low 1 (by omega)).trans t1
      have q5 := (hI.low 5 (by omega)).trans t5
      have q9 := (hI.low 9 (by omega)).trans t9
      have hBJ := hI.gr.get hB
    · exact OpOK.step (mu := fun _ => false) (v := V9 l ex room i B Lc c d p 0) (H' := J) (by simp only [go_sem, ↓reduceIte, simprocAttr, q0]; rfl) (hI.pure (by decide))
    · exact OpOK.step (mu := fun _ => false) (v := V9 l ex room i B Lc c d p 1) (H' := J) (by simp only [go_sem, ↓reduceIte, simprocAttr, q1]; rfl) (hI.pure (by decide))
    · exact OpOK.step (mu := fun _ => false) (v := V9 l ex room i B Lc c d p 2) (H' := J) (by simp only [go_sem, ↓reduceIte, simprocAttr]; rfl) (hI.pure (by decide))
    · exact OpOK.step (mu := fun _ => false) (v := V9 l ex room i B Lc c d p 3) (H' := J) (by simp only [go_sem, ↓reduceIte, simprocAttr, q5]; rfl) (hI.pure (by decide))
    · have k3 : T' 45 = .mptr B 0 0 := hI.tab 3 (by decide) (by simp [hq])
      exact OpOK.step (mu := fun _ => false) (v := V9 l ex room i B Lc c d p 4) (H' := J) (by simp only [go_sem, ↓reduceIte, simprocAttr, k3, hBJ]; rfl) (hI.pure (by decide))
    · have k2 : T' 44 = .rsl [] true := hI.tab 2 (by decide) (by simp [hq])
      have k4 : T' 46 = .rsl (ints Lc) false := hI.tab 4 (by decide) (by simp [hq])
      have hO : Own H.length 3 J (.rsl [] true) [] := .fix
      have hA := app_apV (e := 3) (kk := 1) (b := 8) (ex := false) hO (by simp) (hones Lc) (hcell Lc) (by rw [hLn]; simp; omega)
      have hW := apV_own hO (xs := ints Lc) hI.gr.len
      have hG := apV_grow hO (xs := ints Lc) (Nat.le_refl _) hI.gr
      rw [List.nil_append] at hW
      have hX := fun j ob hj hne => apV_other (xs := ints Lc) (j := j) (ob := ob) hO hj hne
      generalize apV J (.rsl [] true) [] (ints Lc) 3 = W at *
      refine OpOK.step (mu := fun _ => false) (v := W.1) (H' := W.2) (by simp only [stepA, builtinA, List.map_cons, List.map_nil, evA]; rw [ap86, k2, k4, hA]) ?_
      obtain ⟨h1, h2, h3, h4, h5, h6, h7, h8, h8b, h9, h10⟩ := hI
      have l8 : L 8 = false := by cases e : L 8 with
        | false => rfl
        | true => rw [h5 e] at hL; exact absurd hL (by decide)
      have s0 : ∀ m, m ≠ 5 → setL L 5 m = L m := fun m hm => by simp [setL, hm]
      have u0 : ∀ m, m ≠ 47 → upd T' 47 W.1 m = T' m := fun m hm => by simp [upd, hm]
      refine ⟨fun s hs => (u0 s (by omega)).trans (h1 s hs), fun k hk hl5 => ?_, hG, fun _ _ => ?_, fun _ => by simp [setL], ?_, ?_, ?_, ?_, ?_, ?_⟩
      · have k5 : k ≠ 5 := fun e => by rw [e] at hk; exact absurd hk (by decide)
        rw [s0 k k5] at hl5
        exact (u0 _ (by omega)).trans (h2 k hk hl5)
      · simpa [putA, upd] using hW
      · rw [s0 _ (by omega), l8]; intro e; exact absurd e (by decide)
      · rw [s0 _ (by omega)]; intro e; rw [(h7 e).1] at l8; exact absurd l8 (by decide)
      · rw [s0 _ (by omega), s0 _ (by omega)]; exact h8
      · rw [s0 _ (by omega), s0 _ (by omega)]; exact h8b
      · rw [s0 _ (by omega)]; intro e; rw [h8 e] at l8; exact absurd l8 (by decide)
      · rw [s0 _ (by omega), s0 _ (by omega)]
        intro e
        obtain ⟨q, e1, a1, a2, a3, a4⟩ := h10 e
        exact ⟨q, e1, (u0 _ (by omega)).trans a1, a2, hX q _ a3 (fun e => absurd (AObj.cells.inj e).2 (by decide)), a4⟩
    · exact OpOK.step (mu := fun _ => false) (v := V9 l ex room i B Lc c d p 6) (H' := J) (by simp only [go_sem, ↓reduceIte, simprocAttr, q9]; first | done | rfl) (hI.pure (by decide))
    · exact OpOK.step (mu := fun _ => false) (v := V9 l ex room i B Lc c d p 7) (H' := J) (by have k6 := hI.tab 6 (by decide) (by simp [hq]); simp only [V9] at k6; simp only [go_sem, ↓reduceIte, simprocAttr, k6]; first | done | rfl) (hI.pure (by decide))
    · have k7 := hI.tab 7 (by decide) (by simp [hq])
      simp only [V9] at k7
      have hO := hI.a5 (by simp [hq]) hL
      have hA := app_apV (e := 3) (kk := 1) (b := 8) (xs := [[iv (i : Int)]]) (ex := true) hO (hones Lc) (by simp) (fun x hx => by simp at hx; subst hx; rfl) (by rw [hLn]; simp; omega)
      have hG := hO.grow (Nat.le_refl _) hI.gr
      have hX := fun j ob hj hne => (held (hO.other (j := j) (ob := ob) hj hne)).2.1 [AObj.cells (ints (Lc ++ [(i : Int)])) 3]
      have hn := get_new (ownK J (T' 47)) (.cells (ints (Lc ++ [(i : Int)])) 3)
      have hl1 := hI.gr.len
      unfold apV at hA
      rw [if_neg (by simp), hap, hLn] at hA
      rw [ownK_len] at hn
      generalize ha : T' 47 = a at *
      refine OpOK.step (mu := fun _ => false) (v := .msl J.length 0 (Lc.length + 1)) (H' := ownK J a ++ [.cells (ints (Lc ++ [(i : Int)])) 3]) (by simp only [stepA, builtinA, List.map_cons, List.map_nil, evA]; rw [ap86, k7, ha, hA]; rfl) ?_
      obtain ⟨h1, h2, h3, h4, h5, h6, h7, h8, h8b, h9, h10⟩ := hI
      have s0 : ∀ m, m ≠ 8 → setL L 8 m = L m := fun m hm => by simp [setL, hm]
      have u0 : ∀ m, m ≠ 50 → upd T' 50 (.msl J.length 0 (Lc.length + 1)) m = T' m := fun m hm => by simp [upd, hm]
      refine ⟨fun s hs => (u0 s (by omega)).trans (h1 s hs), fun k hk hl5 => ?_, hG.app _, ?_, ?_, ?_, ?_, ?_, ?_, ?_, ?_⟩
      · have k5 : k ≠ 8 := fun e => by rw [e] at hk; exact absurd hk (by decide)
        rw [s0 k k5] at hl5
        exact (u0 _ (by omega)).trans (h2 k hk hl5)
      · intro _ e; exact absurd e (by simp [setL])
      · intro _; rw [s0 _ (by omega)]; simp [hq]
      · intro _; exact ⟨J.length, by simp [putA, upd], hl1, fun _ => hn⟩
      · rw [s0 _ (by omega)]; intro e; rw [(h7 e).1] at hL; exact absurd hL (by decide)
      · intro _; simp [setL]
      · rw [s0 _ (by omega), s0 _ (by omega)]; exact h8b
      · rw [s0 _ (by omega)]; intro e; rw [h8 e] at hL; exact absurd hL (by decide)
      · rw [s0 _ (by omega), s0 _ (by omega)]
        intro e
        obtain ⟨q, e1, a1, a2, a3, a4⟩ := h10 e
        exact ⟨q, e1, (u0 _ (by omega)).trans a1, a2, hX q _ a3 (fun e => absurd (AObj.cells.inj e).2 (by decide)), a4⟩
    · exact OpOK.step (mu := fun _ => false) (v := V9 l ex room i B Lc c d p 9) (H' := J) (by simp only [go_sem, ↓reduceIte, simprocAttr, q5]; first | done | rfl) (hI.pure (by decide))
    · exact OpOK.step (mu := fun _ => false) (v := V9 l ex room i B Lc c d p 10) (H' := J) (by have k9 := hI.tab 9 (by decide) (by simp [hq]); simp only [V9] at k9; simp only [go_sem, ↓reduceIte, simprocAttr, k9, hBJ]; first | done | rfl) (hI.pure (by decide))
    · exact OpOK.step (mu := fun _ => false) (v := V9 l ex room i B Lc c d p 11) (H' := J) (by simp only [go_sem, ↓reduceIte, simprocAttr, q0]; first | done | rfl) (hI.pure (by decide))
    · exact OpOK.step (mu := fun _ => false) (v := V9 l ex room i B Lc c d p 12) (H' := J) (by simp only [go_sem, ↓reduceIte, simprocAttr, q9]; first | done | rfl) (hI.pure (by decide))
    · exact OpOK.step (mu := fun _ => false) (v := V9 l ex room i B Lc c d p 13) (H' := J) (by have k11 := hI.tab 11 (by decide) (by simp [hq]); simp only [V9] at k11; have k12 := hI.tab 12 (by decide) (by simp [hq]); simp only [V9] at k12; simp only [go_sem, ↓reduceIte, simprocAttr, k11, k12, hpl, hpc, hil2, hi0, Int.toNat_natCast]; first | done | rfl) (hI.pure (by decide))
    · exact OpOK.step (mu := fun _ => false) (v := V9 l ex room i B Lc c d p 14) (H' := J) (by have k13 := hI.tab 13 (by decide) (by simp [hq]); simp only [V9] at k13; simp only [go_sem, ↓reduceIte, simprocAttr, k13]; first | done | rfl) (hI.pure (by decide))
    · exact OpOK.step (mu := fun _ => false) (v := V9 l ex room i B Lc c d p 15) (H' := J) (by have k14 := hI.tab 14 (by decide) (by simp [hq]); simp only [V9] at k14; simp only [go_sem, ↓reduceIte, simprocAttr, k14]; first | done | rfl) (hI.pure (by decide))
    · exact OpOK.step (mu := fun _ => false) (v := V9 l ex room i B Lc c d p 16) (H' := J) (by have k10 := hI.tab 10 (by decide) (by simp [hq]); simp only [V9] at k10; have k15 := hI.tab 15 (by decide) (by simp [hq]); simp only [V9] at k15; simp only [go_sem, ↓reduceIte, simprocAttr, k10, k15, ww]; first | done | rfl) (hI.pure (by decide))
    · exact OpOK.step (mu := fun _ => false) (v := V9 l ex room i B Lc c d p 17) (H' := J) (by simp only [go_sem, ↓reduceIte, simprocAttr, q5]; first | done | rfl) (hI.pure (by decide))
    · exact OpOK.step (mu := fun _ => false) (v := V9 l ex room i B Lc c d p 18) (H' := J) (by have k17 := hI.tab 17 (by decide) (by simp [hq]); simp only [V9] at k17; simp only [go_sem, ↓reduceIte, simprocAttr, k17, hBJ]; first | done | rfl) (hI.pure (by decide))
    · exact OpOK.step (mu := fun _ => false) (v := V9 l ex room i B Lc c d p 19) (H' := J) (by simp only [go_sem, ↓reduceIte, simprocAttr, q0]; first | done | rfl) (hI.pure (by decide))
    · exact OpOK.step (mu := fun _ => false) (v := V9 l ex room i B Lc c d p 20) (H' := J) (by simp only [go_sem, ↓reduceIte, simprocAttr, q9]; first | done | rfl) (hI.pure (by decide))
    · exact OpOK.step (mu := fun _ => false) (v := V9 l ex room i B Lc c d p 21) (H' := J) (by have k19 := hI.tab 19 (by decide) (by simp [hq]); simp only [V9] at k19; have k20 := hI.tab 20 (by decide) (by simp [hq]); simp only [V9] at k20; simp only [go_sem, ↓reduceIte, simprocAttr, k19, k20, hpl, hpc, hil2, hi0, Int.toNat_natCast]; first | done | rfl) (hI.pure (by decide))
    · exact OpOK.step (mu := fun _ => false) (v := V9 l ex room i B Lc c d p 22) (H' := J) (by have k21 := hI.tab 21 (by decide) (by simp [hq]); simp only [V9] at k21; simp only [go_sem, ↓reduceIte, simprocAttr, k21]; first | done | rfl) (hI.pure (by decide))
    · exact OpOK.step (mu := fun _ => false) (v := V9 l ex room i B Lc c d p 23) (H' := J) (by have k22 := hI.tab 22 (by decide) (by simp [hq]); simp only [V9] at k22; simp only [go_sem, ↓reduceIte, simprocAttr, k22]; first | done | rfl) (hI.pure (by decide))
    · exact OpOK.step (mu := fun _ => false) (v := V9 l ex room i B Lc c d p 24) (H' := J) (by have k18 := hI.tab 18 (by decide) (by simp [hq]); simp only [V9] at k18; have k23 := hI.tab 23 (by decide) (by simp [hq]); simp only [V9] at k23; simp only [go_sem, ↓reduceIte, simprocAttr, k18, k23, wz]; first | done | rfl) (hI.pure (by decide))
    · have k16 := hI.tab 16 (by decide) (by simp [hq])
      have k24 := hI.tab 24 (by decide) (by simp [hq])
      simp only [V9] at k16 k24
      obtain ⟨o, k50, a1, a2⟩ := hI.a8 (by simp [hq])
      refine OpOK.step (mu := fun _ => false) (v := .agg [.msl o 0 (Lc.length + 1), iv d.worth, iv d.size]) (H' := J) (by simp only [go_sem, ↓reduceIte, simprocAttr, k16, k24, k50]; first | done | rfl) ?_
      obtain ⟨h1, h2, h3, h4, h5, h6, h7, h8, h8b, h9, h10⟩ := hI
      have s0 : ∀ m, m ≠ 25 → setL L 25 m = L m := fun m hm => by simp [setL, hm]
      have u0 : ∀ m, m ≠ 67 → upd T' 67 (.agg [.msl o 0 (Lc.length + 1), iv d.worth, iv d.size]) m = T' m := fun m hm => by simp [upd, hm]
      refine ⟨fun s hs => (u0 s (by omega)).trans (h1 s hs), fun k hk hl5 => ?_, h3, ?_, ?_, ?_, ?_, ?_, ?_, ?_, ?_⟩
      · have k5 : k < 25 := by simp [pure9] at hk; omega
        rw [s0 k (by omega)] at hl5
        exact (u0 _ (by omega)).trans (h2 k hk hl5)
      · rw [s0 _ (by omega), s0 _ (by omega)]; intro e e2; exact (show Own H.length 3 J (T' 47) _ from h4 e e2)
      · rw [s0 _ (by omega), s0 _ (by omega)]; exact h5
      · rw [s0 _ (by omega), s0 _ (by omega)]; exact h6
      · intro _; rw [s0 _ (by omega)]; exact ⟨by simp [hq], by rw [← k50]; simp [putA, upd]⟩
      · rw [s0 _ (by omega), s0 _ (by omega)]; exact h8
      · rw [s0 _ (by omega), s0 _ (by omega)]; exact h8b
      · rw [s0 _ (by omega)]; intro e; obtain ⟨z, z1, z2⟩ := h9 e; exact ⟨z, z1, (u0 _ (by omega)).trans z2⟩
      · rw [s0 _ (by omega), s0 _ (by omega)]
        intro e
        obtain ⟨q, e1, a1, a2, a3, a4⟩ := h10 e
        exact ⟨q, e1, (u0 _ (by omega)).trans a1, a2, a3, a4⟩
    · have k0 := hI.tab 0 (by decide) (by simp [hq])
      have k1 := hI.tab 1 (by decide) (by simp [hq])
      simp only [V9] at k0 k1
      obtain ⟨l8, k67⟩ := hI.a25 (by simp [hq])
      obtain ⟨o, k50, a1, a2⟩ := hI.a8 l8
      have hKo := a2 hL
      rw [k50] at k67
      refine OpOK.call rfl (show ACallV Try.prog (evA T' (.func 88)) [evA T' (.tmp 42), evA T' (.tmp 43), evA T' (.tmp 67)] J _ from ?_)
      rw [show evA T' (.tmp 42) = _ from k0, show evA T' (.tmp 43) = _ from k1, show evA T' (.tmp 67) = _ from k67]
      refine ACallV.mono (show ACallV Try.prog (.fn (.func 88) []) _ J _ from hrec J o hKo) fun v K1 hA => ?_
      obtain ⟨⟨z, hz, rfl⟩, hle, hsame⟩ := hA
      obtain ⟨h1, h2, h3, h4, h5, h6, h7, h8, h8b, h9, h10⟩ := hI
      have s0 : ∀ m, m ≠ 26 → setL L 26 m = L m := fun m hm => by simp [setL, hm]
      have u0 : ∀ m, m ≠ 68 → upd T' 68 (.agg (zcs l.length z)) m = T' m := fun m hm => by simp [upd, hm]
      refine ⟨fun s hs => (u0 s (by omega)).trans (h1 s hs), fun k hk hl5 => ?_, ⟨Nat.le_trans h3.len hle, fun j hj => (hsame j (Nat.lt_of_lt_of_le hj h3.len) (by omega)).trans (h3.old j hj)⟩, ?_, ?_, ?_, ?_, ?_, ?_, ?_, ?_⟩
      · have k5 : k < 25 := by simp [pure9] at hk; omega
        rw [s0 k (by omega)] at hl5
        exact (u0 _ (by omega)).trans (h2 k hk hl5)
      · rw [s0 _ (by omega), s0 _ (by omega), l8]; intro _ e; exact absurd e (by decide)
      · rw [s0 _ (by omega), s0 _ (by omega)]; exact h5
      · intro _; exact ⟨o, (u0 _ (by omega)).trans k50, a1, fun e => absurd e (by simp [setL])⟩
      · intro _; rw [s0 _ (by omega)]; exact ⟨l8, by rw [← k50] at k67; exact (u0 _ (by omega)).trans (k67.trans (by rw [show putA T' (some 68) (.agg (zcs l.length z)) 50 = T' 50 from u0 _ (by omega)]))⟩
      · intro _; rw [s0 _ (by omega)]; exact l8
      · rw [s0 _ (by omega), s0 _ (by omega)]; exact h8b
      · intro _; exact ⟨z, hz, by simp [putA, upd]⟩
      · rw [s0 _ (by omega), s0 _ (by omega)]
        intro e
        obtain ⟨q, e1, a1, a2, a3, a4⟩ := h10 e
        refine ⟨q, e1, (u0 _ (by omega)).trans a1, a2, ?_, a4⟩
        rw [hsame q (List.getElem?_eq_some_iff.1 a3).1 (fun e => by rw [e, hKo] at a3; exact absurd (AObj.cells.inj (Option.some.inj a3)).2 (by decide))]
        exact a3
    · refine OpOK.step (mu := fun _ => true) (v := .mptr J.length 0 0) (H' := J ++ [.cells [[nilS, iv 0, iv 0]] 153]) (by simp only [go_sem, ↓reduceIte, simprocAttr]; first | done | rfl) ?_
      obtain ⟨h1, h2, h3, h4, h5, h6, h7, h8, h8b, h9, h10⟩ := hI
      have s0 : ∀ m, m ≠ 27 → setL L 27 m = L m := fun m hm => by simp [setL, hm]
      have u0 : ∀ m, m ≠ 10 → upd T' 10 (.mptr J.length 0 0) m = T' m := fun m hm => by simp [upd, hm]
      have l28 : L 28 = false := by cases e : L 28 with
        | false => rfl
        | true => rw [h8b e] at hL; exact absurd hL (by decide)
      refine ⟨fun s hs => (u0 s (by omega)).trans (h1 s hs), fun k hk hl5 => ?_, h3.app _, ?_, ?_, ?_, ?_, ?_, ?_, ?_, ?_⟩
      · have k5 : k < 25 := by simp [pure9] at hk; omega
        rw [s0 k (by omega)] at hl5
        exact (u0 _ (by omega)).trans (h2 k hk hl5)
      · rw [s0 _ (by omega), s0 _ (by omega)]; intro e e2; exact (h4 e e2).app _
      · rw [s0 _ (by omega), s0 _ (by omega)]; exact h5
      · rw [s0 _ (by omega), s0 _ (by omega)]; intro e; obtain ⟨o, a1, a2, a3⟩ := h6 e; exact ⟨o, (u0 _ (by omega)).trans a1, a2, fun e => (held (a3 e)).2.1 _⟩
      · rw [s0 _ (by omega), s0 _ (by omega)]; exact h7
      · rw [s0 _ (by omega), s0 _ (by omega)]; exact h8
      · intro _; simp [setL]
      · rw [s0 _ (by omega)]; exact h9
      · intro _
        refine ⟨J.length, [nilS, iv 0, iv 0], by simp [putA, upd], h3.len, get_new _ _, ?_, fun _ => rfl⟩
        rw [s0 _ (by omega), l28]; intro e; exact absurd e (by decide)
    · obtain ⟨z, hz, k68⟩ := hI.a26 (by simp [hq])
      obtain ⟨q, e1, k10, a2, a3, a4, a5⟩ := hI.a27 (by simp [hq])
      have he := a5 hL
      subst he
      simp only [zcs] at k68
      refine OpOK.step (mu := fun _ => true) (v := .val undef) (H' := J.set q (.cells [zcs l.length z] 153)) (by simp only [go_sem, ↓reduceIte, simprocAttr, k68, k10, a3]; first | done | rfl) ?_
      obtain ⟨h1, h2, h3, h4, h5, h6, h7, h8, h8b, h9, h10⟩ := hI
      have s0 : ∀ m, m ≠ 28 → setL L 28 m = L m := fun m hm => by simp [setL, hm]
      have l8 : L 8 = true := by simp [hq]
      have l26 : L 26 = true := by simp [hq]
      refine ⟨h1, fun k hk hl5 => ?_, h3.set a2 _, ?_, ?_, ?_, ?_, ?_, ?_, ?_, ?_⟩
      · have k5 : k < 25 := by simp [pure9] at hk; omega
        rw [s0 k (by omega)] at hl5
        exact h2 k hk hl5
      · rw [s0 _ (by omega), s0 _ (by omega), l8]; intro _ e; exact absurd e (by decide)
      · rw [s0 _ (by omega), s0 _ (by omega)]; exact h5
      · rw [s0 _ (by omega), s0 _ (by omega)]; intro e; obtain ⟨o, b1, b2, _⟩ := h6 e; exact ⟨o, b1, b2, fun e => by rw [l26] at e; exact absurd e (by decide)⟩
      · rw [s0 _ (by omega), s0 _ (by omega)]; exact h7
      · rw [s0 _ (by omega), s0 _ (by omega)]; exact h8
      · intro _; rw [s0 _ (by omega)]; simp [hq]
      · rw [s0 _ (by omega)]; exact h9
      · intro _
        refine ⟨q, zcs l.length z, k10, a2, (heldS a3).1 _, fun _ => ⟨z, hz, rfl⟩, fun e => absurd e (by simp [setL])⟩
  · obtain ⟨q, e, a1, a2, a3, a4, _⟩ := hI.a27 (hL 27 (by decide))
    obtain ⟨z, hz, rfl⟩ := a4 (hL 28 (by decide))
    exact ⟨q, z, hz, a1, a2, a3⟩

end Go.Proofs.Ytlhchnnfgppneaa.Ab
