/- Rows that never turn again, wherever a value or a row of rows has them. -/
import Derived.Test.YtphfdbmbdaninaaC2
namespace Go.Proofs.Ytphfdbmbdaninaa.Ab
open Go Go.RowKit
variable {base : Nat} {w0 w w' : World} {g g' : Gh} {H H0 : Hp}

/-- the same value, where the row b is told as what it holds -/
inductive Fz (b : Nat) (es : List (List AV)) : AV → AV → Prop
  | same (a : AV) : Fz b es a a
  | here {off len : Nat} (h : off + len ≤ es.length) : Fz b es (.msl b off len) (.rsl ((es.drop off).take len) false)
  | rptr {cs cs' : List AV} {off : Nat} (hl : cs.length = cs'.length) (h : ∀ (i : Nat) (c c' : AV), cs[i]? = some c → cs'[i]? = some c' → Fz b es c c') : Fz b es (.rptr cs off) (.rptr cs' off)
  | agg {cs cs' : List AV} (hl : cs.length = cs'.length) (h : ∀ (i : Nat) (c c' : AV), cs[i]? = some c → cs'[i]? = some c' → Fz b es c c') : Fz b es (.agg cs) (.agg cs')
  | tup {cs cs' : List AV} (hl : cs.length = cs'.length) (h : ∀ (i : Nat) (c c' : AV), cs[i]? = some c → cs'[i]? = some c' → Fz b es c c') : Fz b es (.tup cs) (.tup cs')

theorem twin {α : Type} {l l' : List α} (hl : l.length = l'.length) {i : Nat} {c' : α} (h : l'[i]? = some c') : ∃ c, l[i]? = some c :=
  ⟨_, List.getElem?_eq_getElem (by rw [hl]; exact (List.getElem?_eq_some_iff.1 h).1)⟩

theorem Fz.rel {b y : Nat} {es : List (List AV)} (h1 : g.ph b = some y) (h2 : g.le g') (h4 : ∀ off len v, off + len ≤ es.length → R g (.msl b off len) v → R g' (.rsl ((es.drop off).take len) false) v)
    {a a' : AV} (h : Fz b es a a') : ∀ v, R g' a v → R g' a' v := by
  induction h with
  | same a => exact fun v h => h
  | here hfit =>
    intro v hv
    refine h4 _ _ v hfit ?_
    cases hv with
    | msl hx hl' hc' hm =>
      have e1 := h2.ks b y h1
      have e2 := h2.cp b y h1
      have e3 := h2.ph b y h1
      rw [e3] at hx
      cases hx
      rw [e1]
      rw [e2] at hc'
      exact .msl h1 hl' hc' hm
  | rptr hl h ih =>
    intro v hv
    cases hv with
    | rptr vs hf hr =>
      refine .rptr vs (fun i hi => hf i (by omega)) fun i c' hc' => ?_
      obtain ⟨c, hc⟩ := twin hl hc'
      exact ih i c c' hc hc' _ (hr i c hc)
  | agg hl h ih =>
    intro v hv
    cases hv with
    | agg hs hr =>
      refine .agg (by omega) fun i c' v hc' hv => ?_
      obtain ⟨c, hc⟩ := twin hl hc'
      exact ih i c c' hc hc' _ (hr i c v hc hv)
  | tup hl h ih =>
    intro v hv
    cases hv with
    | tup hs hr =>
      refine .tup (by omega) fun i c' v hc' hv => ?_
      obtain ⟨c, hc⟩ := twin hl hc'
      exact ih i c c' hc hc' _ (hr i c v hc hv)

/-- what is handed back has the row -/
theorem Vs.freezeV {a a' : AV} {b : Nat} {es : List (List AV)} {t : TypeId} (hb : H[b]? = some (.cells es t)) (hF : Fz b es a a') : Vs H0 a H a' (H.set b .dead) := by
  intro base w0 g0 g w x _ _ hg S hR
  obtain ⟨y, o, h1, _, _⟩ := S.obj b _ hb (by simp)
  obtain ⟨g', h2, h3, h4⟩ := freeze_R S hb h1
  exact ⟨g', hg.trans h2, h3, hF.rel h1 h2 h4 _ (hR.mono h2)⟩

/-- a row of rows has the row -/
theorem Vs.freezeRow {a : AV} {s b p len : Nat} {es ess : List (List AV)} {t t' : TypeId} (hsb : s ≠ b) (hs : H[s]? = some (.cells ess t)) (hp : ess[p]? = some [.msl b 0 len]) (hb : H[b]? = some (.cells es t')) (hfit : len ≤ es.length) :
    Vs H0 a H a ((H.set b .dead).set s (.cells (ess.set p [.rsl (es.take len) false]) t)) := by
  intro base w0 g0 g w x _ _ hg S hR
  obtain ⟨y, o, h1, _, _⟩ := S.obj b _ hb (by simp)
  obtain ⟨g', h2, h3, h4⟩ := freeze_R S hb h1
  refine ⟨g', hg.trans h2, ?_, hR.mono h2⟩
  refine h3.retell (s := s) (ob := .cells ess t) ?_ (by simp) ?_
  · rw [List.getElem?_set_ne (fun e => hsb e.symm)]; exact hs
  · intro k cp o h
    cases h with
    | cells hsz hle hk hr =>
      refine .cells hsz (by simpa using hle) (fun i e he => ?_) (fun i e j c he hc => ?_)
      · rw [List.getElem?_set] at he
        split at he
        · rename_i hip
          split at he
          · cases he; subst hip; have := hk _ _ hp; simpa using this
          · cases he
        · exact hk i e he
      · rw [List.getElem?_set] at he
        split at he
        · rename_i hip
          subst hip
          split at he
          · cases he
            have hj : j = 0 := by have := (List.getElem?_eq_some_iff.1 hc).1; simp at this; omega
            subst hj
            cases hc
            obtain ⟨v, v1, v2⟩ := hr _ _ 0 _ hp rfl
            refine ⟨v, v1, ?_⟩
            have := (Fz.here (b := b) (es := es) (off := 0) (len := len) (by omega)).rel h1 h2 h4 v v2
            simpa using this
          · cases he
        · exact hr i e j c he hc

end Go.Proofs.Ytphfdbmbdaninaa.Ab
