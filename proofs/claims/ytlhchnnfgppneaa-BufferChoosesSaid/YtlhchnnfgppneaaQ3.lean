/- A row that a struct's field names is frozen, with the field. -/
import Derived.Test.YtlhchnnfgppneaaN0
namespace Go.Proofs.Ytlhchnnfgppneaa.Ab
open Go Go.RowKit Go.Proofs
set_option linter.unusedSimpArgs false
set_option linter.unusedVariables false
attribute [local irreducible] Awp wpO thenQ blockQ bodyQ ACalls stepA
section
variable {P : Program} {n : Nat} {rd : Option Nat} {T T' : Env} {H : Hp} {Q : Exit → Env → Hp → Prop}

theorem Awp.frzCell {c : Code} {s b len k : Nat} {es : List (List AV)} {e0 : List AV} {t t' : TypeId} (hsb : s ≠ b) (hs : H[s]? = some (.cells [e0] t)) (hk0 : e0[k]? = some (.msl b 0 len)) (hb : H[b]? = some (.cells es t')) (hfit : len ≤ es.length)
    (h : Awp P n rd c T ((H.set b .dead).set s (.cells [e0.set k (.rsl (es.take len) false)] t)) Q) : Awp P n rd c T H Q := by
  unfold Awp at *
  intro base w0 g w a r S hTR hr
  obtain ⟨y, o, h1, _, _⟩ := S.obj b _ hb (by simp)
  obtain ⟨g', h2, h3, h4⟩ := freeze_R S hb h1
  have hTR' : TRel g' n T a.tmps := ⟨hTR.size, fun s => (hTR.slot s).mono h2⟩
  have h5 := h3.retell (s := s) (ob := .cells [e0] t) (ob' := .cells [e0.set k (.rsl (es.take len) false)] t) (by rw [List.getElem?_set_ne (fun e => hsb e.symm)]; exact hs) (by simp) (by
    intro k1 cp o h
    cases h with
    | cells hsz hle hk hr =>
      refine .cells hsz (by simpa using hle) (fun i e he => ?_) (fun i e j c he hc => ?_)
      · cases i with
        | zero =>
          have := hk 0 e0 rfl
          simp at he
          subst he
          simpa using this
        | succ i => simp at he
      · cases i with
        | zero =>
          simp at he
          subst he
          rw [List.getElem?_set] at hc
          split at hc
          · rename_i hkj
            subst hkj
            split at hc
            · cases hc
              obtain ⟨v, v1, v2⟩ := hr 0 e0 _ _ rfl hk0
              refine ⟨v, v1, ?_⟩
              have := (Fz.here (b := b) (es := es) (off := 0) (len := len) (by omega)).rel h1 h2 h4 v v2
              simpa using this
            · cases hc
          · exact hr 0 e0 j c rfl hc
        | succ i => simp at he)
  refine wpIn_mono (h base w0 g' w a r h5 hTR' (hr.mono h2)) fun e a2 w2 ⟨T2, H2, g2, ds, k1, k2, k3, k4, k5, k6⟩ => ?_
  exact ⟨T2, H2, g2, ds, k1, h2.trans k2, k3, k4, k5, by simpa using (Marks.nil g g').append k6 h2 k2⟩
theorem Awp.frzCellNil {c : Code} {s k : Nat} {e0 : List AV} {t : TypeId} (hs : H[s]? = some (.cells [e0] t)) (hk0 : e0[k]? = some nilS)
    (h : Awp P n rd c T (H.set s (.cells [e0.set k (.rsl [] false)] t)) Q) : Awp P n rd c T H Q := by
  unfold Awp at *
  intro base w0 g w a r S hTR hr
  have h5 := S.retell (s := s) (ob := .cells [e0] t) (ob' := .cells [e0.set k (.rsl [] false)] t) hs (by simp) (by
    intro k1 cp o h
    cases h with
    | cells hsz hle hk hr =>
      refine .cells hsz (by simpa using hle) (fun i e he => ?_) (fun i e j c he hc => ?_)
      · cases i with
        | zero =>
          have := hk 0 e0 rfl
          simp at he
          subst he
          simpa using this
        | succ i => simp at he
      · cases i with
        | zero =>
          simp at he
          subst he
          rw [List.getElem?_set] at hc
          split at hc
          · rename_i hkj
            subst hkj
            split at hc
            · cases hc
              obtain ⟨v, v1, v2⟩ := hr 0 e0 _ _ rfl hk0
              refine ⟨v, v1, ?_⟩
              cases v2
              exact .rnil _
            · cases hc
          · exact hr 0 e0 j c rfl hc
        | succ i => simp at he)
  exact h base w0 g w a r h5 hTR hr
end

end Go.Proofs.Ytlhchnnfgppneaa.Ab
