/- Best: the region that makes both halves, in no order. -/
import Derived.Test.YtlhchnnfgppneaaR8
import Derived.Test.YtlhchnnfgppneaaS5
namespace Go.Proofs.Ytlhchnnfgppneaa.Ab
open Go Go.RowKit Go.Proofs
set_option linter.unusedSimpArgs false
set_option linter.unusedVariables false
attribute [local irreducible] Awp wpO thenQ blockQ bodyQ ACalls stepA

def tl : Code → Code
  | .seq _ y => y
  | c => c
def hdC : Code → Code
  | .seq x _ => x
  | c => c
def inC : Code → Code
  | .block _ c => c
  | .loop c => c
  | c => c

/-- the second half is made -/
def HalfP (H : Hp) (L : List Ch) (v : AV) (K : Hp) : Prop := Grow H K ∧ ∃ b, H.length ≤ b ∧ v = .msl b 0 L.length ∧ K[b]? = some (.cells (chs L) 145)
structure Inv8 (H : Hp) (l : List Pr) (ex ex1 : Bool) (room : Int) (half : Nat) (F L0 : List Ch) (L : Nat → Bool) (T : Env) (K : Hp) : Prop where
  t0 : T 0 = .rsl (prs l) ex
  t1 : T 1 = iv room
  t7 : T 7 = iv half
  i0 : L 0 = true → T 31 = .rsl (prs l) ex
  i1 : L 1 = true → T 32 = iv half
  i2 : L 2 = true → T 33 = .rsl ((prs l).take half) ex1
  i3 : L 3 = true → T 34 = .rsl (chs F) false
  i4 : L 4 = true → T 35 = .rsl (prs l) ex
  i5 : L 5 = true → T 36 = iv half
  i6 : L 6 = true → T 37 = .rsl ((prs l).drop half) ex
  i7 : L 7 = true → T 38 = iv half
  i8 : L 8 = true → T 39 = iv (23 - half : Nat)
  ia : L 9 = false → K = H
  ib : L 9 = true → HalfP H L0 (T 40) K
  ic : L 10 = true → T 8 = .rsl (chs F) false
  id : L 11 = true → T 9 = T 40
  j11 : L 11 = true → L 9 = true

set_option maxRecDepth 8000 in
set_option maxHeartbeats 8000000 in
theorem best8 {H : Hp} {l : List Pr} {ex : Bool} {room : Int} {half : Nat} {F L0 : List Ch} {T : Env} (t0 : T 0 = .rsl (prs l) ex) (t1 : T 1 = iv room) (t7 : T 7 = iv half) (hle : half ≤ l.length) (h23 : half ≤ 23)
    (hz1 : 0 = half ∨ ((prs l)[0]?).map List.length = some 2) (hz2 : half = l.length ∨ ((prs l)[half]?).map List.length = some 2)
    (hs1 : ∀ (ex : Bool) H, CallsTo Try.prog 80 [.rsl ((prs l).take half) ex, iv (23 : Nat)] H (.rsl (chs F) false) H) (hs2 : ∀ (ex : Bool) H, ACalls Try.prog 80 [.rsl ((prs l).drop half) ex, iv (23 - half : Nat)] H (HalfP H L0)) :
    Awp Try.prog 130 none (hdC (tl (tl (tl (tl (tl (Try.f45.body.getD .skip))))))) T H (fun e T' K => e = .normal ∧ T' 0 = .rsl (prs l) ex ∧ T' 1 = iv room ∧ T' 8 = .rsl (chs F) false ∧ HalfP H L0 (T' 9) K) := by
  have hpl := prs_len l
  have w3 : IntKind.i64.wrap (23 - (half : Int)) = ((23 - half : Nat) : Int) := by rw [w64 (by omega) (by omega)]; omega
  have hh0 : (0 : Int) ≤ half := by omega
  have htl : (prs l).take l.length = prs l := by rw [← hpl]; exact List.take_length
  unfold Try.f45
  simp only [tl, hdC, Option.getD_some]
  refine Awp.anyInvO mixed (Inv8 H l ex (ex && half == l.length) room half F L0) (by kernel_rfl) ?_ ?_ (fun L T J hL hI => ⟨rfl, hI.t0, hI.t1, hI.ic (hL 10 (by decide)), by rw [hI.id (hL 11 (by decide))]; exact hI.ib (hL 9 (by decide))⟩)
  · exact ⟨t0, t1, t7, by simp, by simp, by simp, by simp, by simp, by simp, by simp, by simp, by simp, fun _ => rfl, by simp, by simp, by simp, by simp⟩
  simp only [AllIx]
  clear t0 t1 t7 T
  refine ⟨?_, ?_, ?_, ?_, ?_, ?_, ?_, ?_, ?_, ?_, ?_, ?_, trivial⟩
  all_goals
    intro L T J hL hp ⟨t0, t1, t7, i0, i1, i2, i3, i4, i5, i6, i7, i8, ia, ib, ic, id, j11⟩
    simp [Region.binds] at hp
  · refine OpOK.step (mu := fun _ => false) (by simp only [go_sem, ↓reduceIte, simprocAttr, t0]; rfl) ?_
    constructor <;> simp_all [setL, putA, upd]
  · refine OpOK.step (mu := fun _ => false) (by simp only [go_sem, ↓reduceIte, simprocAttr, t7]; rfl) ?_
    constructor <;> simp_all [setL, putA, upd]
  · have k0 := i0 (by simp [hp])
    have k1 := i1 (by simp [hp])
    refine OpOK.step (mu := fun _ => false) (v := .rsl ((prs l).take half) (ex && half == l.length)) (by simp only [go_sem, ↓reduceIte, simprocAttr, k0, k1, hpl, hle, hh0, hz1, hz2, htl, Int.toNat_natCast, Nat.zero_le, Nat.le_refl, List.drop_zero, true_and, and_true]; rfl) ?_
    constructor <;> simp_all [setL, putA, upd]
  · have k2 := i2 (by simp [hp])
    refine OpOK.call rfl (show ACallV Try.prog (evA T (.func 80)) [evA T (.tmp 33), iv 23] J _ from ?_)
    rw [show evA T (.tmp 33) = _ from k2]
    refine ACallV.mono (show ACallV Try.prog (.fn (.func 80) []) _ J _ from hs1 _ J) fun v K1 hA => ?_
    obtain ⟨rfl, rfl⟩ := hA
    constructor <;> simp_all [setL, putA, upd]
  · refine OpOK.step (mu := fun _ => false) (by simp only [go_sem, ↓reduceIte, simprocAttr, t0]; rfl) ?_
    constructor <;> simp_all [setL, putA, upd]
  · refine OpOK.step (mu := fun _ => false) (by simp only [go_sem, ↓reduceIte, simprocAttr, t7]; rfl) ?_
    constructor <;> simp_all [setL, putA, upd]
  · have k0 := i4 (by simp [hp])
    have k1 := i5 (by simp [hp])
    refine OpOK.step (mu := fun _ => false) (v := .rsl ((prs l).drop half) ex) (by simp only [go_sem, ↓reduceIte, simprocAttr, k0, k1, hpl, hle, hh0, hz1, hz2, htl, Int.toNat_natCast, Nat.zero_le, Nat.le_refl, List.drop_zero, true_and, and_true]; first | done | rfl | (simp; done)) ?_
    constructor <;> simp_all [setL, putA, upd]
  · refine OpOK.step (mu := fun _ => false) (by simp only [go_sem, ↓reduceIte, simprocAttr, t7]; rfl) ?_
    constructor <;> simp_all [setL, putA, upd]
  · have k0 := i7 (by simp [hp])
    refine OpOK.step (mu := fun _ => false) (by simp only [go_sem, ↓reduceIte, simprocAttr, k0, w3]; rfl) ?_
    constructor <;> simp_all [setL, putA, upd]
  · have k4 := i6 (by simp [hp])
    have k5 := i8 (by simp [hp])
    have eK := ia hL
    rw [eK]
    refine OpOK.call rfl (show ACallV Try.prog (evA T (.func 80)) [evA T (.tmp 37), evA T (.tmp 39)] H _ from ?_)
    rw [show evA T (.tmp 37) = _ from k4, show evA T (.tmp 39) = _ from k5]
    refine ACallV.mono (show ACallV Try.prog (.fn (.func 80) []) _ H _ from hs2 _ H) fun v K1 hA => ?_
    constructor <;> simp_all [setL, putA, upd]
  · have k0 := i3 (by simp [hp])
    refine OpOK.step (mu := fun _ => false) (by simp only [go_sem, ↓reduceIte, simprocAttr, k0]; rfl) ?_
    constructor <;> simp_all [setL, putA, upd]
  · have e9 : L 9 = true := by simp [hp]
    have hA := ib e9
    have hA2 := hA
    obtain ⟨_, b, _, k0, _⟩ := hA
    refine OpOK.step (mu := fun _ => false) (by simp only [go_sem, ↓reduceIte, simprocAttr, k0]; rfl) ?_
    constructor <;> simp_all [setL, putA, upd]

end Go.Proofs.Ytlhchnnfgppneaa.Ab
