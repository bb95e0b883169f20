/- More small steps: a block that never turns again, a body that hands back a new block. -/
import Derived.Test.YtphfdbmbdaninaaC0
namespace Go.Proofs.Ytphfdbmbdaninaa.Ab
open Go Go.RowKit
variable {P : Program} {n : Nat} {rd : Option Nat} {T T' : Env} {H : Hp} {Q : Exit → Env → Hp → Prop}

/-- a row of one's own that never turns again, wherever a slot has it -/
theorem Awp.freeze {c : Code} {b : Nat} {es : List (List AV)} {t : TypeId} (hb : H[b]? = some (.cells es t))
    (hT : ∀ s, T' s = T s ∨ ∃ off len, T s = .msl b off len ∧ off + len ≤ es.length ∧ T' s = .rsl ((es.drop off).take len) false)
    (h : Awp P n rd c T' (H.set b .dead) Q) : Awp P n rd c T H Q := by
  intro base w0 g w a r S hTR hr
  obtain ⟨y, o, h1, _, _⟩ := S.obj b _ hb (by simp)
  obtain ⟨g', h2, h3, h4⟩ := freeze_R S hb h1
  have hTR' : TRel g' n T' a.tmps := by
    refine ⟨hTR.size, fun s => ?_⟩
    rcases hT s with e | ⟨off, len, e, hfit, e'⟩
    · rw [e]; exact (hTR.slot s).mono h2
    · rw [e']
      have := hTR.slot s
      rw [e] at this
      exact h4 off len _ hfit this
  refine wpIn_mono (h base w0 g' w a r h3 hTR' (hr.mono h2)) fun e a2 w2 ⟨T2, H2, g2, ds, k1, k2, k3, k4, k5, k6⟩ => ?_
  exact ⟨T2, H2, g2, ds, k1, h2.trans k2, k3, k4, k5, by simpa using (Marks.nil g g').append k6 h2 k2⟩

/-- what is known of the slots -/
theorem Awp.withT {c : Code} (p : Env → Prop) (hp : p T) (h : ∀ T', p T' → Awp P n rd c T' H Q) : Awp P n rd c T H Q := h T hp

/-- what is known of the heap's first part -/
theorem Awp.withH {c : Code} {B X : Hp} (p : Hp → Prop) (hp : p B) (h : ∀ A, p A → Awp P n rd c T (A ++ X) Q) : Awp P n rd c T (B ++ X) Q := h B hp

/-- two slots that have the row -/
theorem Awp.freeze1 {c : Code} {b : Nat} {es : List (List AV)} {t : TypeId} (s len : Nat) (hs : T s = .msl b 0 len) (hfit : len ≤ es.length) (hb : H[b]? = some (.cells es t))
    (h : Awp P n rd c (upd T s (.rsl (es.take len) false)) (H.set b .dead) Q) : Awp P n rd c T H Q := by
  refine Awp.freeze hb (fun s' => ?_) h
  by_cases e : s' = s
  · subst e
    exact .inr ⟨0, len, hs, by omega, by simp [upd]⟩
  · exact .inl (by simp [upd, e])

theorem Bel.mono {m m' : Nat} (hm : m ≤ m') {a : AV} (h : Bel m a) : Bel m' a := by
  induction h with
  | val v => exact .val v
  | rptr _ ih => exact .rptr ih
  | mptr h => exact .mptr (Nat.lt_of_lt_of_le h hm)
  | rsl _ ih => exact .rsl ih
  | msl h => exact .msl (Nat.lt_of_lt_of_le h hm)
  | fn hy _ ih => exact .fn hy ih
  | mth _ ih => exact .mth ih
  | yld h => exact .yld (Nat.lt_of_lt_of_le h hm)
  | mp h => exact .mp (Nat.lt_of_lt_of_le h hm)
  | agg _ ih => exact .agg ih
  | tup _ ih => exact .tup ih

theorem BelO.mono {m m' : Nat} (hm : m ≤ m') {a : AObj} (h : BelO m a) : BelO m' a := by
  cases h with
  | cells h => exact .cells fun e he c hc => (h e he c hc).mono hm
  | amap h => exact .amap fun e he => ⟨(h e he).1.mono hm, (h e he).2.mono hm⟩
  | loop h => exact .loop fun t => (h t).mono hm
  | dead => exact .dead

theorem BelO_cells {m : Nat} {es : List (List AV)} {t : TypeId} (h : ∀ e ∈ es, ∀ c ∈ e, Bel m c) : BelO m (.cells es t) := .cells h
theorem Bel_iff_tup (m : Nat) (cs : List AV) : Bel m (.tup cs) ↔ ∀ c ∈ cs, Bel m c := ⟨fun h => by cases h; assumption, .tup⟩
theorem Bel_iff_agg (m : Nat) (cs : List AV) : Bel m (.agg cs) ↔ ∀ c ∈ cs, Bel m c := ⟨fun h => by cases h; assumption, .agg⟩
theorem Bel_iff_rsl (m : Nat) (es : List (List AV)) (ex : Bool) : Bel m (.rsl es ex) ↔ ∀ e ∈ es, ∀ c ∈ e, Bel m c := ⟨fun h => by cases h; assumption, .rsl⟩
theorem Bel_iff_mptr (m b i off : Nat) : Bel m (.mptr b i off) ↔ b < m := ⟨fun h => by cases h; assumption, .mptr⟩
theorem Bel_iff_fn (m : Nat) (k : FuncId) (cs : List AV) : Bel m (.fn (.func k) cs) ↔ ∀ c ∈ cs, Bel m c := ⟨fun h => by cases h; assumption, .fn (by intro l h; cases h)⟩
theorem Bel_iff_rptr (m : Nat) (cs : List AV) (off : Nat) : Bel m (.rptr cs off) ↔ ∀ c ∈ cs, Bel m c := ⟨fun h => by cases h; assumption, .rptr⟩
theorem Bel_iff_msl (m b off len : Nat) : Bel m (.msl b off len) ↔ b < m := ⟨fun h => by cases h; assumption, .msl⟩

theorem bel_append {H0 X : Hp} (hX : ∀ c ∈ X, BelO (H0 ++ X).length c) (h : ∀ (b : Nat) (ob : AObj), H0[b]? = some ob → ob ≠ .dead → BelO H0.length ob) :
    ∀ (b : Nat) (ob : AObj), (H0 ++ X)[b]? = some ob → ob ≠ .dead → BelO (H0 ++ X).length ob := by
  intro b ob hb hn
  rw [List.getElem?_append] at hb
  split at hb
  · exact (h b ob hb hn).mono (by simp)
  · exact hX ob (List.mem_of_getElem? hb)

variable {fn : Func} {H0 X : Hp} {e : Exit} {Post : AV → Hp → Prop} {vs : List AV}

theorem bodyQ_mk {H' : Hp} {a : AV} (he : e = .normal ∨ e = .ret) (hr : resL P T H fn.results.toList = some vs) (hv : Vs H0 (oneOf vs) H a H') (hp : Post a H') : bodyQ P fn H0 Post e T H := ⟨he, vs, a, H', hr, hv, hp⟩

/-- a body that hands back new blocks Y -/
theorem bodyQ_new {Y : Hp} (he : e = .normal ∨ e = .ret) (hr : resL P T (H0 ++ Y ++ X) fn.results.toList = some vs) (hY : ∀ c ∈ Y, BelO (H0 ++ Y).length c) (hb : Bel (H0 ++ Y).length (oneOf vs)) (hp : Post (oneOf vs) (H0 ++ Y)) :
    bodyQ P fn H0 Post e T (H0 ++ Y ++ X) :=
  ⟨he, vs, oneOf vs, H0 ++ Y, hr, Vs.dropTo (by simp) (bel_append hY) hb, hp⟩

end Go.Proofs.Ytphfdbmbdaninaa.Ab
