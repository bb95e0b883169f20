/- Archive: for x := range a.counting(asOf). -/
import Derived.Test.YtdmgljlabigljaaTP
namespace Go.Proofs.Ytdmgljlabigljaa.Ab
open Go Go.RowKit Go.Proofs
set_option linter.unusedSimpArgs false
set_option linter.unusedVariables false
attribute [local irreducible] Awp wpO thenQ blockQ bodyQ ACalls stepA

theorem KQ.set {N : Nat} {K0 K H1 : Hp} (h : KQ N K0 K H1) {s : Nat} (hs : s < N) (h0 : s < K0.length) (c : AObj) : KQ N K0 K (H1.set s c) :=
  ⟨⟨by rw [List.getElem?_set_ne (by omega)]; exact h.kn.k0, by rw [List.getElem?_set_ne (by omega)]; exact h.kn.k1, by rw [List.getElem?_set_ne (by omega)]; exact h.kn.k2⟩,
    fun x hx hl => by rw [List.getElem?_set_ne (by omega)]; exact h.new x hx hl⟩
theorem KQ.unset {N : Nat} {K0 K H1 : Hp} {s : Nat} {c : AObj} (h : KQ N K0 K (H1.set s c)) (hs : s < N) (h0 : s < K0.length) : KQ N K0 K H1 :=
  ⟨⟨by have := h.kn.k0; rwa [List.getElem?_set_ne (by omega)] at this, by have := h.kn.k1; rwa [List.getElem?_set_ne (by omega)] at this, by have := h.kn.k2; rwa [List.getElem?_set_ne (by omega)] at this⟩,
    fun x hx hl => by have := h.new x hx hl; rwa [List.getElem?_set_ne (by omega)] at this⟩

theorem overCount {p b : Nat} {S : List Ser} {L : List Ent} {asOf : Int} {n : Nat} {T : Env} {Q : Exit → Env → Hp → Prop} {gop : Operand} {x : Nat} {assign body : Code} {A : Hp} (hlen : L.length ≤ 1024)
    (hT : evA T gop = .fn (.func 32) [.rptr [.mptr p 0 0] 0, .rptr [iv asOf] 0]) (hx : x < n) (I : Nat → Hp → Prop) (Rq : Hp → Prop) (hArc : ∀ j H, I j H → Arc H p b S L)
    (hst : ∀ j K K', I j K → Kp (A.length + 1) K K' → I j K') (hrs : ∀ K K', Rq K → Kp (A.length + 1) K K' → Rq K') (h0 : ∀ ob, I 0 (A ++ [ob]))
    (hb : ∀ (lp : LoopState → AObj) (j : Nat) (e : Ent) (K0 K : Hp), (cntL asOf L)[j]? = some e → I j K0 → A.length < K0.length → Kp (A.length + 1) K0 K → A.length + 3 < K.length → K[A.length]? = some (lp .ready) →
      Awp Try.prog n (some A.length) assign (upd T x e.av) K (fun ex T1 H1' => ex = .normal ∧ H1'[A.length]? = some (lp .ready) ∧ Awp Try.prog n (some A.length) body T1 (H1'.set A.length (lp .busy)) (fun ex T2 H2 => H2[A.length]? = some (lp .busy) ∧ KQ (A.length + 1) K0 K H2 ∧
        match ex with | .normal => I (j + 1) (H2.set A.length (lp .ready)) | .ret => Rq (H2.set A.length .dead) | _ => False)))
    (hn : ∀ H1 ob, I (cntL asOf L).length H1 → H1[A.length]? = some ob → Q .normal T (H1.set A.length .dead))
    (hr : ∀ H1, Rq H1 → Q .ret T H1) :
    Awp Try.prog n none (.rangeFunc gop #[x] assign body) T A Q := by
  refine Awp.range (k := 32) (cap := [.rptr [.mptr p 0 0] 0, .rptr [iv asOf] 0]) hT fun fid D => ?_
  have finA : ∀ H', ((I (cntL asOf L).length H' ∧ H'[A.length]? = some (.loop .ready none fid T n #[x] assign body D)) ∨ (H'[A.length]? = some (.loop .done (some .ret) fid T n #[x] assign body D) ∧ Rq (H'.set A.length .dead))) → rangeQ Try.prog n none T A.length Q (.val undef) H' := by
    rintro H' (⟨h1, h2⟩ | ⟨h1, h2⟩)
    · exact ⟨.ready, none, fid, T, n, _, _, _, D, h2, by simp, hn H' _ h1 h2⟩
    · exact ⟨.done, some .ret, fid, T, n, _, _, _, D, h1, by simp, Awp.ret (hr _ h2)⟩
  have hAl : (A ++ [AObj.loop .ready none fid T n #[x] assign body D]).length = A.length + 1 := by simp
  refine ACalls.mono (countLoop (asOf := asOf) (L := L) (S := S) (b := b) (bk := A.length) (fun j H' => I j H' ∧ H'[A.length]? = some (.loop .ready none fid T n #[x] assign body D))
    (fun H' => H'[A.length]? = some (.loop .done (some .ret) fid T n #[x] assign body D) ∧ Rq (H'.set A.length .dead)) (A ++ [AObj.loop .ready none fid T n #[x] assign body D]) (fun j H' h => hArc j H' h.1) ?_ ?_ ?_ ⟨h0 _, get_new _ _⟩ hlen) fun v1 H' h => finA H' h
  · rw [hAl]
    rintro j K K' ⟨h1, h2⟩ hK
    exact ⟨hst j K K' h1 hK, hK.get h2 (.inl (by omega))⟩
  · rw [hAl]
    rintro K K' ⟨h1, h2⟩ hK
    refine ⟨hK.get h1 (.inl (by omega)), hrs _ _ h2 ⟨by simpa using hK.len, fun y hy y0 y1 y2 => ?_⟩⟩
    rw [List.length_set] at hy
    by_cases e : A.length = y
    · subst e
      rw [List.getElem?_set_self (by have := hK.len; omega), List.getElem?_set_self (by have := hK.len; omega)]
    · rw [List.getElem?_set_ne e, List.getElem?_set_ne e]; exact hK.old y hy y0 y1 y2
  · rw [hAl]
    rintro j e K0 K he ⟨hI, hlp⟩ hK hKl
    have hl0 := (List.getElem?_eq_some_iff.1 hlp).1
    have hlp2 := hK.get hlp (.inl (by omega))
    refine AYield.mono (yieldOf2 hlp2 rfl (by simp; exact hx) (fun K' => I (j + 1) K' ∧ KQ (A.length + 1) K0 K K') (fun K' => Rq K' ∧ KQ (A.length + 1) K0 K K') ?_) ?_
    · refine Awp.mono (hb (fun st => .loop st none fid T n #[x] assign body D) j e K0 K he hI hl0 hK (by omega) hlp2) fun ex T1 H1' ⟨h1, h2, h3⟩ => ⟨h1, h2, Awp.mono h3 fun ex T2 H2 ⟨h4, h5, h6⟩ => ⟨h4, ?_⟩⟩
      cases ex with
      | normal => exact ⟨h6, h5.set (by omega) hl0 _⟩
      | ret => exact ⟨h6, h5.set (by omega) hl0 _⟩
      | _ => exact h6
    · rintro v1 H2 (⟨rfl, ⟨h1, h2⟩, h3⟩ | ⟨rfl, h3, h1, h2⟩)
      · exact .inl ⟨rfl, ⟨h1, h3⟩, h2⟩
      · exact .inr ⟨rfl, ⟨h3, h1⟩, h2.unset (by omega) hl0⟩

end Go.Proofs.Ytdmgljlabigljaa.Ab
