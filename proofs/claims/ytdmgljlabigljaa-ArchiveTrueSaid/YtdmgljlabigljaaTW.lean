/- Archive: look: an entry that is found. -/
import Derived.Test.YtdmgljlabigljaaTV
namespace Go.Proofs.Ytdmgljlabigljaa.Ab
open Go Go.RowKit Go.Proofs
set_option linter.unusedSimpArgs false
set_option linter.unusedVariables false
attribute [local irreducible] Awp wpO thenQ blockQ bodyQ ACalls stepA

def V9l (vb n : Nat) (m : Nat) (a : AV) (e : Ent) : Nat → AV
  | 0 => .mptr vb 0 0
  | 1 => .mptr vb 0 0
  | 2 => .mptr vb 0 0
  | 3 => .mptr vb 0 0
  | 4 => a
  | 5 => e.av
  | 6 => .rsl [e.cs] true
  | 7 => .msl n 0 (m + 1)
  | 8 => .mptr vb 0 0
  | 9 => .mptr vb 0 0
  | _ => nilS
def X9l (K1 K2 K3 : Hp) (L : Nat → Bool) (K : Hp) : Prop := (L 7 = false ∧ L 10 = false ∧ K = K1) ∨ (L 7 = true ∧ L 10 = false ∧ K = K2) ∨ ((∀ k, k < 11 → k ≠ 8 → L k = true) ∧ K = K3)
theorem X9l.same {K1 K2 K3 : Hp} {L : Nat → Bool} {K : Hp} (h : X9l K1 K2 K3 L K) {k : Nat} (h1 : k ≠ 7) (h2 : k ≠ 10) : X9l K1 K2 K3 (setL L k) K := by
  have e1 : setL L k 7 = L 7 := by simp [setL, Ne.symm h1]
  have e2 : setL L k 10 = L 10 := by simp [setL, Ne.symm h2]
  rcases h with ⟨a, b, c⟩ | ⟨a, b, c⟩ | ⟨a, b⟩
  · exact .inl ⟨by rw [e1]; exact a, by rw [e2]; exact b, c⟩
  · exact .inr (.inl ⟨by rw [e1]; exact a, by rw [e2]; exact b, c⟩)
  · refine .inr (.inr ⟨fun j hj hj8 => ?_, b⟩)
    by_cases e : j = k
    · subst e; simp [setL]
    · simpa [setL, e] using a j hj hj8
theorem X9l.two {K1 K2 K3 : Hp} {L : Nat → Bool} {K : Hp} (h : X9l K1 K2 K3 L K) {k : Nat} (hL : L k = false) (hk : k < 11) (hk8 : k ≠ 8) : K = K1 ∨ K = K2 := by
  rcases h with ⟨_, _, h⟩ | ⟨_, _, h⟩ | ⟨h, _⟩
  · exact .inl h
  · exact .inr h
  · rw [h k hk hk8] at hL; cases hL

/-- what an append of some elements hands back -/
def apV (H : Hp) (a : AV) (es xs : List (List AV)) (e : TypeId) : AV × Hp := if xs = [] then (a, H) else (.msl H.length 0 (es.length + xs.length), ownK H a ++ [AObj.cells (es ++ xs) e])
theorem app_apV {e : TypeId} {kk b lo : Nat} {H : Hp} {a : AV} {es xs : List (List AV)} {ex : Bool} (hO : Own lo e H a es) (hk : ∀ x ∈ es, x.length = kk) (hxk : ∀ x ∈ xs, x.length = kk) (hc : ∀ x ∈ xs, x.all AV.isCell = true) (hb : (es.length + xs.length) * b ≤ 140737488355328) :
    appendB e kk b a (.rsl xs ex) H = some (apV H a es xs e) := by
  have hsrc : srcA kk (.rsl xs ex) H = some xs := by
    unfold srcA
    simp only
    rw [if_pos (by rw [List.all_eq_true]; intro e he; simpa using hxk e he)]
  unfold appendB
  rw [hsrc]
  unfold apV
  by_cases h0 : xs = []
  · subst h0
    simp only [List.length_nil, if_true]
    cases hO <;> rfl
  · have hne : ¬ xs.length = 0 := fun h => h0 (List.eq_nil_of_length_eq_zero h)
    simp only [if_neg hne, if_neg h0]
    cases hO with
    | nil =>
      simp only [List.length_nil, Nat.zero_add] at hb ⊢
      rw [if_pos hb]
      rfl
    | fix =>
      simp only
      rw [if_pos ⟨by rw [List.all_eq_true]; intro e he; simpa using hk e he, hb⟩]
      rfl
    | row hne2 hlo hbb =>
      have hpos : 0 < es.length := by
        rcases Nat.eq_zero_or_pos es.length with h | h
        · exact absurd (List.eq_nil_of_length_eq_zero h) hne2
        · exact h
      simp only [hbb]
      rw [if_pos ⟨by trivial, Nat.le_refl _, hpos, by rw [List.all_eq_true]; intro e he; simpa using hk e he, by rw [List.all_eq_true]; exact hc, hb⟩, List.take_length]
      rfl
def cnD : Code → Code
  | .cond _ a _ => a
  | c => c

set_option maxRecDepth 8000 in
set_option maxHeartbeats 8000000 in
theorem look9 {K1 : Hp} {q : Qy} {s : Ser} {e : Ent} {a : AV} {rows : List (List AV)} {lo vb cb xb : Nat} {rd : Option Nat} {T0 : Env} (t6 : T0 6 = .mptr cb 0 0) (t7 : T0 7 = .mptr xb 0 0) (hc : K1[cb]? = some (.cells [[.mptr vb 0 0]] 65)) (hv : K1[vb]? = some (.cells [[a, iv s.lo, iv s.hi, hidF q]] 70))
    (hx : K1[xb]? = some (.cells [e.cs] 31)) (hO : OwnR lo 31 9 80 K1 a rows) (hcl : cb < lo) (hvl : vb < lo) (hxo : (ownK K1 a)[xb]? = K1[xb]?) :
    Awp Try.prog 101 rd (cnD (tlD (inD (bdD (inD (tlD (hdD (tlD (tlD (tlD (tlD (Try.f23.body.getD .skip)))))))))))) T0 K1 (fun ex T' K => ex = .normal ∧ K = (ownK K1 a ++ [AObj.cells (rows ++ [e.cs]) 31]).set vb (.cells [[.msl K1.length 0 (rows.length + 1), iv s.lo, iv s.hi, hidF q]] 70)) := by
  have hl : ∀ {j : Nat} {ob : AObj}, (ownK K1 a)[j]? = some ob → ∀ {J : Hp}, K1[j]? = some ob → J = K1 ∨ J = ownK K1 a ++ [AObj.cells (rows ++ [e.cs]) 31] → J[j]? = some ob := by
    rintro j ob h J h1 (rfl | rfl)
    · exact h1
    · exact (held h).2.1 _
  have hc2 : ∀ {J : Hp}, J = K1 ∨ J = ownK K1 a ++ [AObj.cells (rows ++ [e.cs]) 31] → J[cb]? = _ := fun h => hl ((ownK_low hO.own hcl).trans hc) hc h
  have hv2 : ∀ {J : Hp}, J = K1 ∨ J = ownK K1 a ++ [AObj.cells (rows ++ [e.cs]) 31] → J[vb]? = _ := fun h => hl ((ownK_low hO.own hvl).trans hv) hv h
  have hx2 : ∀ {J : Hp}, J = K1 ∨ J = ownK K1 a ++ [AObj.cells (rows ++ [e.cs]) 31] → J[xb]? = _ := fun h => hl (hxo.trans hx) hx h
  unfold Try.f23
  simp only [tlD, hdD, inD, bdD, cnD, Option.getD_some]
  refine Awp.anyInvO mixed (InvV [90, 91, 92, 93, 94, 95, 96, 97, 98, 99, 999] (V9l vb K1.length rows.length a e) (fun x => x == 6 || x == 7) T0 (X9l K1 (ownK K1 a ++ [AObj.cells (rows ++ [e.cs]) 31]) ((ownK K1 a ++ [AObj.cells (rows ++ [e.cs]) 31]).set vb (.cells [[.msl K1.length 0 (rows.length + 1), iv s.lo, iv s.hi, hidF q]] 70)))) (by kernel_rfl) (InvV.start (.inl ⟨rfl, rfl, rfl⟩)) ?_ (fun L T' J hL hI => ⟨rfl, ?_⟩)
  · simp only [AllIx]
    refine ⟨?_, ?_, ?_, ?_, ?_, ?_, ?_, ?_, ?_, ?_, ?_, trivial⟩
    all_goals
      intro L T' J hL hq hI
      simp [Region.binds] at hq
      have q6 := (hI.keep 6 rfl).trans t6
      have q7 := (hI.keep 7 rfl).trans t7
    · have hcJ := hc2 (hI.ext.two hL (by decide) (by decide))
      exact OpOK.step (mu := fun _ => false) (by simp only [go_sem, ↓reduceIte, simprocAttr, q6, hcJ]; first | done | rfl) (hI.put (k := 0) (by decide) rfl (hI.ext.same (by decide) (by decide)))
    · have hcJ := hc2 (hI.ext.two hL (by decide) (by decide))
      exact OpOK.step (mu := fun _ => false) (by simp only [go_sem, ↓reduceIte, simprocAttr, q6, hcJ]; first | done | rfl) (hI.put (k := 1) (by decide) rfl (hI.ext.same (by decide) (by decide)))
    · have k0 : T' 91 = .mptr vb 0 0 := hI.tab 1 rfl (by simp [hq])
      exact OpOK.step (mu := fun _ => false) (by simp only [go_sem, ↓reduceIte, simprocAttr, k0]; first | done | rfl) (hI.put (k := 2) (by decide) rfl (hI.ext.same (by decide) (by decide)))
    · have k0 : T' 92 = .mptr vb 0 0 := hI.tab 2 rfl (by simp [hq])
      exact OpOK.step (mu := fun _ => false) (by simp only [go_sem, ↓reduceIte, simprocAttr, k0]; first | done | rfl) (hI.put (k := 3) (by decide) rfl (hI.ext.same (by decide) (by decide)))
    · have k0 : T' 93 = .mptr vb 0 0 := hI.tab 3 rfl (by simp [hq])
      have hvJ := hv2 (hI.ext.two hL (by decide) (by decide))
      exact OpOK.step (mu := fun _ => false) (by simp only [go_sem, ↓reduceIte, simprocAttr, k0, hvJ]; first | done | rfl) (hI.put (k := 4) (by decide) rfl (hI.ext.same (by decide) (by decide)))
    · have hxJ := hx2 (hI.ext.two hL (by decide) (by decide))
      simp only [Ent.cs] at hxJ
      exact OpOK.step (mu := fun _ => false) (by simp only [go_sem, ↓reduceIte, simprocAttr, q7, hxJ]; first | done | rfl) (hI.put (k := 5) (by decide) rfl (hI.ext.same (by decide) (by decide)))
    · have k0 : T' 95 = e.av := hI.tab 5 rfl (by simp [hq])
      simp only [Ent.av, Ent.cs] at k0
      exact OpOK.step (mu := fun _ => false) (by simp only [go_sem, ↓reduceIte, simprocAttr, k0]; first | done | rfl) (hI.put (k := 6) (by decide) rfl (hI.ext.same (by decide) (by decide)))
    · have k4 : T' 94 = a := hI.tab 4 rfl (by simp [hq])
      have k6 : T' 96 = .rsl [e.cs] true := hI.tab 6 rfl (by simp [hq])
      have hJ : L 10 = false ∧ J = K1 := by
        rcases hI.ext with ⟨_, h2, h⟩ | ⟨h, _⟩ | ⟨h, _⟩
        · exact ⟨h2, h⟩
        · rw [hL] at h; cases h
        · rw [h 7 (by decide) (by decide)] at hL; cases hL
      obtain ⟨l10, rfl⟩ := hJ
      have hA := app_apV (e := 31) (kk := 9) (b := 80) (xs := [e.cs]) (ex := true) hO.own hO.hk (fun x hx => by simp at hx; subst hx; rfl) (fun x hx => by simp at hx; subst hx; rfl) hO.hb
      unfold apV at hA
      rw [if_neg (by simp)] at hA
      refine OpOK.step (mu := fun _ => false) (v := .msl J.length 0 (rows.length + 1)) (H' := ownK J a ++ [AObj.cells (rows ++ [e.cs]) 31]) (by simp only [stepA, builtinA, List.map_cons, List.map_nil, evA]; rw [ap23, k4, k6, hA]; rfl) (hI.put (k := 7) (by decide) rfl (.inr (.inl ⟨by simp [setL], by simpa [setL] using l10, rfl⟩)))
    · have k0 : T' 90 = .mptr vb 0 0 := hI.tab 0 rfl (by simp [hq])
      exact OpOK.step (mu := fun _ => false) (by simp only [go_sem, ↓reduceIte, simprocAttr, k0]; first | done | rfl) (hI.put (k := 8) (by decide) rfl (hI.ext.same (by decide) (by decide)))
    · have k0 : T' 98 = .mptr vb 0 0 := hI.tab 8 rfl (by simp [hq])
      exact OpOK.step (mu := fun _ => false) (by simp only [go_sem, ↓reduceIte, simprocAttr, k0]; first | done | rfl) (hI.put (k := 9) (by decide) rfl (hI.ext.same (by decide) (by decide)))
    · have k7 : T' 97 = .msl K1.length 0 (rows.length + 1) := hI.tab 7 rfl (by simp [hq])
      have k9 : T' 99 = .mptr vb 0 0 := hI.tab 9 rfl (by simp [hq])
      have hJ : J = ownK K1 a ++ [AObj.cells (rows ++ [e.cs]) 31] := by
        rcases hI.ext with ⟨h, _⟩ | ⟨_, _, h⟩ | ⟨h, _⟩
        · simp [hq] at h
        · exact h
        · rw [h 10 (by decide) (by decide)] at hL; cases hL
      have hvJ := hv2 (.inr hJ)
      subst hJ
      refine OpOK.step (mu := fun _ => true) (v := .val undef) (H' := (ownK K1 a ++ [AObj.cells (rows ++ [e.cs]) 31]).set vb (.cells [[.msl K1.length 0 (rows.length + 1), iv s.lo, iv s.hi, hidF q]] 70)) (by simp only [go_sem, ↓reduceIte, simprocAttr, k7, k9, hvJ]; first | done | rfl) (hI.non rfl (.inr (.inr ⟨fun j hj hj8 => ?_, rfl⟩)))
      by_cases e : j = 10
      · subst e; simp [setL]
      · have : L j = true := by
          match j, hj, hj8, e with
          | 0, _, _, _ => simp [hq]
          | 1, _, _, _ => simp [hq]
          | 2, _, _, _ => simp [hq]
          | 3, _, _, _ => simp [hq]
          | 4, _, _, _ => simp [hq]
          | 5, _, _, _ => simp [hq]
          | 6, _, _, _ => simp [hq]
          | 7, _, _, _ => simp [hq]
          | 9, _, _, _ => simp [hq]
          | n + 10, h1, _, h2 => omega
        simpa [setL, e] using this
  · rcases hI.ext with ⟨h, _⟩ | ⟨_, h, _⟩ | ⟨_, h⟩
    · rw [hL 7 (by decide)] at h; cases h
    · rw [hL 10 (by decide)] at h; cases h
    · exact h

end Go.Proofs.Ytdmgljlabigljaa.Ab
