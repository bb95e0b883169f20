/- A heap told otherwise: a block that moves to the end of what is kept, a row within an object that never turns again. -/
import Derived.Test.YtphfdbmbdaninaaC1
namespace Go.Proofs.Ytphfdbmbdaninaa.Ab
open Go Go.RowKit
variable {base : Nat} {w0 w : World} {g : Gh} {P : Program}

/-- own blocks from number m on are forgotten, but for p, which is number m now -/
def Gh.moved (g : Gh) (m p : Nat) : Gh :=
  { g with ph := fun b => if b < m then g.ph b else if b = m then g.ph p else none, ks := fun b => if b = m then g.ks p else g.ks b, cp := fun b => if b = m then g.cp p else g.cp b }

theorem Bel.moved {m p : Nat} {a : AV} {v : Value} (hb : Bel m a) (h : R g a v) : R (g.moved m p) a v := by
  refine @R.mono4 (g.cut m) (g.moved m p) (fun _ _ _ h => h) (fun b x h => ?_) (fun b x h => ?_) (fun b x h => ?_) a v (hb.cut h)
  · change (if b < m then g.ph b else none) = some x at h
    show (if b < m then g.ph b else _) = some x
    split at h
    · rename_i hlt; rw [if_pos hlt]; exact h
    · cases h
  · change (if b < m then g.ph b else none) = some x at h
    show (if b = m then g.ks p else g.ks b) = g.ks b
    split at h
    · rw [if_neg (by omega)]
    · cases h
  · change (if b < m then g.ph b else none) = some x at h
    show (if b = m then g.cp p else g.cp b) = g.cp b
    split at h
    · rw [if_neg (by omega)]
    · cases h

theorem BelO.moved {m p k cp : Nat} {ob : AObj} {o : Obj} (hb : BelO m ob) (h : ORel g k cp ob o) : ORel (g.moved m p) k cp ob o := by
  cases h with
  | cells hs hl hk hr =>
    cases hb with
    | cells hb =>
      refine .cells hs hl hk fun i e j c he hc => ?_
      obtain ⟨v, h1, h2⟩ := hr i e j c he hc
      exact ⟨v, h1, (hb e (List.mem_of_getElem? he) c (List.mem_of_getElem? hc)).moved h2⟩
  | loop h =>
    cases hb with
    | loop hb => exact .loop ⟨h.size, fun t => (hb t).moved (h.slot t)⟩
  | amap hl hr hs =>
    cases hb with
    | amap hb => exact .amap hl (fun i e m he hm => ⟨(hb e (List.mem_of_getElem? he)).1.moved (hr i e m he hm).1, (hb e (List.mem_of_getElem? he)).2.moved (hr i e m he hm).2⟩) hs
  | dead => exact .dead _

theorem Vs.move {H0 A G : Hp} {blk : AObj} {s len : Nat} {pre post : List AV} {t : TypeId} {a : AV} (hl : H0.length ≤ A.length) (hs : A[s]? = some (.cells [pre ++ .msl (A ++ G).length 0 len :: post] t))
    (hpre : ∀ c ∈ pre, Bel A.length c) (hpost : ∀ c ∈ post, Bel A.length c)
    (hA : (∀ (b : Nat) (ob : AObj), H0[b]? = some ob → ob ≠ .dead → BelO H0.length ob) → ∀ (b : Nat) (ob : AObj), b ≠ s → A[b]? = some ob → ob ≠ .dead → BelO A.length ob) (hblk : BelO A.length blk) (ha : Bel A.length a) :
    Vs H0 a (A ++ G ++ [blk]) a (A.set s (.cells [pre ++ .msl A.length 0 len :: post] t) ++ [blk]) := by
  intro base w0 g0 g w x hd hb hg S hR
  have hslt : s < A.length := (List.getElem?_eq_some_iff.1 hs).1
  have hlen : (A.set s (.cells [pre ++ .msl A.length 0 len :: post] t)).length = A.length := by simp
  -- where the objects were
  have old : ∀ (b : Nat) (ob : AObj), (A.set s (.cells [pre ++ .msl A.length 0 len :: post] t) ++ [blk])[b]? = some ob →
      (b = s ∧ ob = .cells [pre ++ .msl A.length 0 len :: post] t) ∨ (b ≠ s ∧ b < A.length ∧ A[b]? = some ob ∧ (A ++ G ++ [blk])[b]? = some ob) ∨ (b = A.length ∧ ob = blk) := by
    intro b ob h
    rw [List.getElem?_append] at h
    split at h
    · rename_i hlt
      rw [hlen] at hlt
      rw [List.getElem?_set] at h
      split at h
      · rename_i e
        cases h
        exact .inl ⟨e.symm, rfl⟩
      · rename_i e
        refine .inr (.inl ⟨fun h => e h.symm, hlt, h, ?_⟩)
        rw [List.append_assoc, List.getElem?_append_left hlt]; exact h
    · rename_i hge
      rw [hlen] at hge h
      have : b - A.length = 0 := by
        rcases Nat.eq_zero_or_pos (b - A.length) with h0 | h0
        · exact h0
        · rw [List.getElem?_eq_none (by simp; omega)] at h; cases h
      rw [this] at h
      simp at h
      exact .inr (.inr ⟨by omega, h.symm⟩)
  have hsS : (A ++ G ++ [blk])[s]? = some (.cells [pre ++ .msl (A ++ G).length 0 len :: post] t) := by
    rw [List.append_assoc, List.getElem?_append_left hslt]; exact hs
  have hpS : (A ++ G ++ [blk])[(A ++ G).length]? = some blk := get_new _ _
  have hne : (A ++ G).length ≠ s := by simp; omega
  -- the number that an object had
  let q : Nat → Nat := fun b => if b = A.length then (A ++ G).length else b
  have hph : ∀ (b x : Nat), (g.moved A.length (A ++ G).length).ph b = some x → b ≤ A.length ∧ g.ph (q b) = some x := by
    intro b x h
    change (if b < A.length then g.ph b else if b = A.length then g.ph (A ++ G).length else none) = some x at h
    split at h
    · rename_i hlt
      refine ⟨by omega, ?_⟩
      show g.ph (if b = A.length then _ else b) = _
      rw [if_neg (by omega)]; exact h
    · split at h
      · rename_i e
        refine ⟨by omega, ?_⟩
        show g.ph (if b = A.length then _ else b) = _
        rw [if_pos e]; exact h
      · cases h
  have hq : ∀ (b : Nat) (ob : AObj), (A.set s (.cells [pre ++ .msl A.length 0 len :: post] t) ++ [blk])[b]? = some ob → ob ≠ .dead → ∃ ob', (A ++ G ++ [blk])[q b]? = some ob' ∧ ob' ≠ .dead := by
    intro b ob h hn
    rcases old b ob h with ⟨rfl, rfl⟩ | ⟨h1, h2, h3, h4⟩ | ⟨rfl, rfl⟩
    · refine ⟨.cells [pre ++ .msl (A ++ G).length 0 len :: post] t, ?_, by simp⟩
      · show (A ++ G ++ [blk])[if b = A.length then _ else b]? = _
        rw [if_neg (by omega)]; exact hsS
    · refine ⟨ob, ?_, hn⟩
      show (A ++ G ++ [blk])[if b = A.length then _ else b]? = _
      rw [if_neg (by omega)]; exact h4
    · refine ⟨ob, ?_, hn⟩
      show (A ++ G ++ [ob])[if A.length = A.length then _ else _]? = _
      rw [if_pos rfl]; exact hpS
  have qinj : ∀ b c, b ≤ A.length → c ≤ A.length → q b = q c → b = c := by
    intro b c h1 h2 h
    change (if b = A.length then (A ++ G).length else b) = (if c = A.length then (A ++ G).length else c) at h
    have : A.length ≤ (A ++ G).length := by simp
    split at h <;> split at h <;> omega
  refine ⟨g.moved A.length (A ++ G).length, ⟨hg.fz, fun b y h => ?_, fun b y h => ?_, fun b y h => ?_, hg.mr⟩, ?_, ha.moved hR⟩
  · have := hd b y h
    show (if b < A.length then g.ph b else _) = some y
    rw [if_pos (by omega)]; exact hg.ph b y h
  · have := hd b y h
    show (if b = A.length then _ else g.ks b) = _
    rw [if_neg (by omega)]; exact hg.ks b y h
  · have := hd b y h
    show (if b = A.length then _ else g.cp b) = _
    rw [if_neg (by omega)]; exact hg.cp b y h
  · exact
    { below := S.below
      low := S.low
      fz := S.fz
      dom := fun b x h => by have := (hph b x h).1; simp; omega
      pos := fun b x h => S.pos _ x (hph b x h).2
      sep := fun b x ob h hn hx => by
        obtain ⟨ob', h1, h2⟩ := hq b ob h hn
        exact S.sep _ x ob' h1 h2 (hph b x hx).2
      inj := fun b c x ob oc h hn h' hn' hx hx' => by
        obtain ⟨ob1, h1, h2⟩ := hq b ob h hn
        obtain ⟨ob2, k1, k2⟩ := hq c oc h' hn'
        exact qinj b c (hph b x hx).1 (hph c x hx').1 (S.inj _ _ x ob1 ob2 h1 h2 k1 k2 (hph b x hx).2 (hph c x hx').2)
      obj := fun b ob h hn => by
        rcases old b ob h with ⟨rfl, rfl⟩ | ⟨h1, h2, h3, h4⟩ | ⟨rfl, rfl⟩
        · obtain ⟨x, o, k1, k2, k3⟩ := S.obj b _ hsS (by simp)
          refine ⟨x, o, ?_, k2, ?_⟩
          · show (if b < A.length then g.ph b else _) = _
            rw [if_pos hslt]; exact k1
          · have e1 : (g.moved A.length (A ++ G).length).ks b = g.ks b := by show (if b = A.length then _ else _) = _; rw [if_neg (by omega)]
            have e2 : (g.moved A.length (A ++ G).length).cp b = g.cp b := by show (if b = A.length then _ else _) = _; rw [if_neg (by omega)]
            rw [e1, e2]
            cases k3 with
            | cells hsz hle hk hr =>
              refine .cells hsz (by simpa using hle) (fun i e he => ?_) (fun i e j c he hc => ?_)
              · rcases i with _ | i
                · simp at he; subst he
                  have := hk 0 _ rfl
                  simpa using this
                · simp at he
              · rcases i with _ | i
                · simp at he; subst he
                  by_cases hj : j = pre.length
                  · subst hj
                    rw [List.getElem?_append_right (Nat.le_refl _), Nat.sub_self] at hc
                    simp at hc; subst hc
                    obtain ⟨v, v1, v2⟩ := hr 0 _ pre.length (.msl (A ++ G).length 0 len) rfl (by rw [List.getElem?_append_right (Nat.le_refl _), Nat.sub_self]; rfl)
                    refine ⟨v, v1, ?_⟩
                    cases v2 with
                    | msl hx hl' hc' hm =>
                      rename_i y cap
                      have e3 : g.ks (A ++ G).length = (g.moved A.length (A ++ G).length).ks A.length := by show _ = (if A.length = A.length then _ else _); rw [if_pos rfl]
                      rw [e3]
                      refine .msl ?_ hl' ?_ hm
                      · show (if A.length < A.length then _ else if A.length = A.length then g.ph _ else none) = _
                        rw [if_neg (by omega), if_pos rfl]; exact hx
                      · show _ = (if A.length = A.length then g.cp _ else _)
                        rw [if_pos rfl]; exact hc'
                  · have hc0 : (pre ++ AV.msl (A ++ G).length 0 len :: post)[j]? = some c := by
                      rw [List.getElem?_append] at hc ⊢
                      split at hc
                      · rename_i h; rw [if_pos h]; exact hc
                      · rename_i h
                        rw [if_neg h]
                        obtain ⟨d, hd'⟩ : ∃ d, j - pre.length = d + 1 := ⟨j - pre.length - 1, by omega⟩
                        rw [hd'] at hc ⊢
                        simpa using hc
                    obtain ⟨v, v1, v2⟩ := hr 0 _ j c rfl hc0
                    refine ⟨v, v1, Bel.moved ?_ v2⟩
                    rw [List.getElem?_append] at hc
                    split at hc
                    · exact hpre c (List.mem_of_getElem? hc)
                    · rename_i h
                      obtain ⟨d, hd'⟩ : ∃ d, j - pre.length = d + 1 := ⟨j - pre.length - 1, by omega⟩
                      rw [hd'] at hc
                      simp at hc
                      exact hpost c (List.mem_of_getElem? hc)
                · simp at he
        · obtain ⟨x, o, k1, k2, k3⟩ := S.obj b ob h4 hn
          refine ⟨x, o, ?_, k2, ?_⟩
          · show (if b < A.length then g.ph b else _) = _
            rw [if_pos h2]; exact k1
          · have e1 : (g.moved A.length (A ++ G).length).ks b = g.ks b := by show (if b = A.length then _ else _) = _; rw [if_neg (by omega)]
            have e2 : (g.moved A.length (A ++ G).length).cp b = g.cp b := by show (if b = A.length then _ else _) = _; rw [if_neg (by omega)]
            rw [e1, e2]
            exact (hA hb b ob h1 h3 hn).moved k3
        · obtain ⟨x, o, k1, k2, k3⟩ := S.obj _ ob hpS hn
          refine ⟨x, o, ?_, k2, ?_⟩
          · show (if A.length < A.length then _ else if A.length = A.length then g.ph _ else none) = _
            rw [if_neg (by omega), if_pos rfl]; exact k1
          · have e1 : (g.moved A.length (A ++ G).length).ks A.length = g.ks (A ++ G).length := by show (if A.length = A.length then _ else _) = _; rw [if_pos rfl]
            have e2 : (g.moved A.length (A ++ G).length).cp A.length = g.cp (A ++ G).length := by show (if A.length = A.length then _ else _) = _; rw [if_pos rfl]
            rw [e1, e2]
            exact hblk.moved k3
      marks := S.marks }

/-- an object told otherwise -/
theorem Sim.retell {H : Hp} (S : Sim base w0 g H w) {s : Nat} {ob ob' : AObj} (hs : H[s]? = some ob) (hn : ob ≠ .dead) (h : ∀ k cp o, ORel g k cp ob o → ORel g k cp ob' o) : Sim base w0 g (H.set s ob') w := by
  have hslt : s < H.length := (List.getElem?_eq_some_iff.1 hs).1
  have old : ∀ (b : Nat) (oc : AObj), (H.set s ob')[b]? = some oc → (b = s ∧ oc = ob') ∨ (b ≠ s ∧ H[b]? = some oc) := by
    intro b oc h
    rw [List.getElem?_set] at h
    split at h
    · rename_i e
      cases h
      exact .inl ⟨e.symm, rfl⟩
    · rename_i e
      exact .inr ⟨fun h => e h.symm, h⟩
  have was : ∀ (b : Nat) (oc : AObj), (H.set s ob')[b]? = some oc → oc ≠ .dead → ∃ od, H[b]? = some od ∧ od ≠ .dead := by
    intro b oc h hn'
    rcases old b oc h with ⟨rfl, _⟩ | ⟨_, h⟩
    · exact ⟨ob, hs, hn⟩
    · exact ⟨oc, h, hn'⟩
  exact
  { below := S.below
    low := S.low
    fz := S.fz
    dom := fun b x h => by simpa using S.dom b x h
    pos := S.pos
    sep := fun b x oc h hn' hx => by
      obtain ⟨od, h1, h2⟩ := was b oc h hn'
      exact S.sep b x od h1 h2 hx
    inj := fun b c x o1 o2 h1 n1 h2 n2 hx hy => by
      obtain ⟨p1, a1, a2⟩ := was b o1 h1 n1
      obtain ⟨p2, b1, b2⟩ := was c o2 h2 n2
      exact S.inj b c x p1 p2 a1 a2 b1 b2 hx hy
    obj := fun b oc h' hn' => by
      rcases old b oc h' with ⟨rfl, rfl⟩ | ⟨_, h1⟩
      · obtain ⟨x, o, k1, k2, k3⟩ := S.obj b ob hs hn
        exact ⟨x, o, k1, k2, h _ _ _ k3⟩
      · exact S.obj b oc h1 hn'
    marks := S.marks }

/-- a row that an object has never turns again -/
theorem Vs.freezeIn {H0 H : Hp} {a : AV} {s b len : Nat} {pre post : List AV} {es : List (List AV)} {t t' : TypeId} (hsb : s ≠ b) (hs : H[s]? = some (.cells [pre ++ .msl b 0 len :: post] t)) (hb : H[b]? = some (.cells es t')) (hfit : len ≤ es.length) :
    Vs H0 a H a ((H.set b .dead).set s (.cells [pre ++ .rsl (es.take len) false :: post] t)) := by
  intro base w0 g0 g w x _ _ hg S hR
  obtain ⟨y, o, h1, _, _⟩ := S.obj b _ hb (by simp)
  obtain ⟨g', h2, h3, h4⟩ := freeze_R S hb h1
  refine ⟨g', hg.trans h2, ?_, hR.mono h2⟩
  refine h3.retell (s := s) (ob := .cells [pre ++ .msl b 0 len :: post] t) ?_ (by simp) ?_
  · rw [List.getElem?_set_ne (fun e => hsb e.symm)]; exact hs
  · intro k cp o h
    -- the row's value is one that the old knowledge had
    cases h with
    | cells hsz hle hk hr =>
      obtain ⟨x2, o2, q1, q2, q3⟩ := S.obj s _ hs (by simp)
      refine .cells hsz (by simpa using hle) (fun i e he => ?_) (fun i e j c he hc => ?_)
      · rcases i with _ | i
        · simp at he; subst he
          have := hk 0 _ rfl
          simpa using this
        · simp at he
      · rcases i with _ | i
        · simp at he; subst he
          by_cases hj : j = pre.length
          · subst hj
            rw [List.getElem?_append_right (Nat.le_refl _), Nat.sub_self] at hc
            simp at hc; subst hc
            obtain ⟨v, v1, v2⟩ := hr 0 _ pre.length (.msl b 0 len) rfl (by rw [List.getElem?_append_right (Nat.le_refl _), Nat.sub_self]; rfl)
            refine ⟨v, v1, ?_⟩
            have v3 : R g (.msl b 0 len) v := by
              cases v2 with
              | msl hx hl' hc' hm =>
                have e1 := h2.ks b y h1
                have e2 := h2.cp b y h1
                have e3 := h2.ph b y h1
                rw [e3] at hx
                cases hx
                rw [e1]
                rw [e2] at hc'
                exact .msl h1 hl' hc' hm
            have := h4 0 len v (by omega) v3
            simpa using this
          · have hc0 : (pre ++ AV.msl b 0 len :: post)[j]? = some c := by
              rw [List.getElem?_append] at hc ⊢
              split at hc
              · rename_i h; rw [if_pos h]; exact hc
              · rename_i h
                rw [if_neg h]
                obtain ⟨d, hd'⟩ : ∃ d, j - pre.length = d + 1 := ⟨j - pre.length - 1, by omega⟩
                rw [hd'] at hc ⊢
                simpa using hc
            exact hr 0 _ j c rfl hc0
        · simp at he

end Go.Proofs.Ytphfdbmbdaninaa.Ab
