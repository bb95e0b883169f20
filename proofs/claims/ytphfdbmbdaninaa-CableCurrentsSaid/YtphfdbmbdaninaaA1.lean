/- How a world may turn while an abstract heap goes on telling it. -/
import Derived.Test.YtphfdbmbdaninaaA0
namespace Go.Proofs.Ytphfdbmbdaninaa.Ab
open Go Go.RowKit

variable {base : Nat} {w0 w w' : World} {g : Gh} {H : Hp}

theorem Sim.size0 (S : Sim base w0 g H w) : w0.heap.size ≤ w.heap.size := S.below.size

theorem Sim.fzlt (S : Sim base w0 g H w) {b o : Nat} {v : Value} (h : g.fz b o = some v) : b < w.heap.size :=
  World.block_lt_of_cell? w ⟨b, o, none⟩ (S.fz b o v h)

theorem grownBy_below {row : Option Nat} (S : Sim base w0 g H w) (h : w.grownBy w' row) (hr : ∀ x, row = some x → base ≤ x) : Below base w0 w' :=
  S.below.trans ⟨h.os, h.tape, h.output, h.size, fun k hk => h.block k (Nat.lt_of_lt_of_le hk S.low) (fun e => by have := hr k e.symm; omega)⟩

theorem Sim.grow (S : Sim base w0 g H w) (h : w.grownBy w' none) : Sim base w0 g H w' where
  below := grownBy_below S h (fun x e => by cases e)
  low := Nat.le_trans S.low h.size
  fz b o v hv := (World.cell?_of_block (a := ⟨b, o, none⟩) (h.block b (S.fzlt hv) (by simp))).trans (S.fz b o v hv)
  dom := S.dom
  pos b x hx := ⟨(S.pos b x hx).1, Nat.lt_of_lt_of_le (S.pos b x hx).2 h.size⟩
  sep := S.sep
  inj := S.inj
  obj b ob hb hn := by
    obtain ⟨x, o, h1, h2, h3⟩ := S.obj b ob hb hn
    exact ⟨x, o, h1, (h.block x (S.pos b x h1).2 (by simp)).trans h2, h3⟩
  marks r hr := by
    obtain ⟨h1, h2, h3⟩ := S.marks r hr
    exact ⟨h1, Nat.lt_of_lt_of_le h2 h.size, (h.block r h2 (by simp)).trans h3⟩

theorem Sim.drew (S : Sim base w0 g H w) : Sim base w0 g H w.drew := S.grow ⟨rfl, rfl, rfl, Nat.le_refl _, fun _ _ _ => rfl⟩

theorem Sim.dead (S : Sim base w0 g H w) (b : Nat) : Sim base w0 g (H.set b .dead) w where
  below := S.below
  low := S.low
  fz := S.fz
  dom c x hx := by simpa using S.dom c x hx
  pos := S.pos
  sep c x ob hc hn := by
    rw [List.getElem?_set] at hc
    split at hc
    · split at hc
      · cases hc; exact absurd rfl hn
      · cases hc
    · exact S.sep c x ob hc hn
  inj c d x ob oc hc hn hd hn' := by
    rw [List.getElem?_set] at hc hd
    split at hc
    · split at hc
      · cases hc; exact absurd rfl hn
      · cases hc
    · split at hd
      · split at hd
        · cases hd; exact absurd rfl hn'
        · cases hd
      · exact S.inj c d x ob oc hc hn hd hn'
  obj c ob hc hn := by
    rw [List.getElem?_set] at hc
    split at hc
    · split at hc
      · cases hc; exact absurd rfl hn
      · cases hc
    · exact S.obj c ob hc hn
  marks := S.marks

/-- one own block turns -/
theorem Sim.turn (S : Sim base w0 g H w) {b x : Nat} {ob ob' : AObj} {o' : Obj} (hb : H[b]? = some ob) (hn : ob ≠ .dead) (hx : g.ph b = some x)
    (h : w.grownBy w' (some x)) (ho : w'.heap[x]? = some o') (hr : ORel g (g.ks b) (g.cp b) ob' o') : Sim base w0 g (H.set b ob') w' where
  below := grownBy_below S h (fun y e => by cases e; exact (S.pos b x hx).1)
  low := Nat.le_trans S.low h.size
  fz c o v hv := by
    refine (World.cell?_of_block (a := ⟨c, o, none⟩) (h.block c (S.fzlt hv) (fun e => ?_))).trans (S.fz c o v hv)
    cases e
    have := (S.sep b x ob hb hn hx).1 o
    rw [hv] at this
    cases this
  dom c y hy := by simpa using S.dom c y hy
  pos c y hy := ⟨(S.pos c y hy).1, Nat.lt_of_lt_of_le (S.pos c y hy).2 h.size⟩
  sep c y oc hc hn' hy := by
    rw [List.getElem?_set] at hc
    split at hc
    · rename_i e; subst e; exact S.sep b y ob hb hn hy
    · exact S.sep c y oc hc hn' hy
  inj c d y oc od hc hnc hd hnd hyc hyd := by
    rw [List.getElem?_set] at hc hd
    split at hc
    · rename_i e; subst e
      split at hd
      · assumption
      · exact S.inj b d y ob od hb hn hd hnd hyc hyd
    · split at hd
      · rename_i e; subst e; exact S.inj c b y oc ob hc hnc hb hn hyc hyd
      · exact S.inj c d y oc od hc hnc hd hnd hyc hyd
  obj c oc hc hnc := by
    rw [List.getElem?_set] at hc
    split at hc
    · rename_i e; subst e
      split at hc
      · cases hc; exact ⟨x, o', hx, ho, hr⟩
      · cases hc
    · rename_i hne
      obtain ⟨y, oy, h1, h2, h3⟩ := S.obj c oc hc hnc
      refine ⟨y, oy, h1, (h.block y (S.pos c y h1).2 (fun e => ?_)).trans h2, h3⟩
      cases e
      exact hne (S.inj b c x ob oc hb hn hc hnc hx h1)
  marks r hr' := by
    obtain ⟨h1, h2, h3⟩ := S.marks r hr'
    refine ⟨h1, Nat.lt_of_lt_of_le h2 h.size, (h.block r h2 (fun e => ?_)).trans h3⟩
    cases e
    exact (S.sep b x ob hb hn hx).2 hr'

/-- a further own block -/
def Gh.phAdd (g : Gh) (b x k c : Nat) : Gh :=
  { g with ph := fun i => if i = b then some x else g.ph i, ks := fun i => if i = b then k else g.ks i, cp := fun i => if i = b then c else g.cp i }

theorem Gh.phAdd_le {b x k c : Nat} (h : g.ph b = none) : g.le (g.phAdd b x k c) where
  fz _ _ _ h := h
  ph i y hy := by
    show (if i = b then some x else g.ph i) = some y
    rw [if_neg (fun e => by subst e; rw [h] at hy; cases hy)]; exact hy
  ks i y hy := by
    show (if i = b then k else g.ks i) = g.ks i
    rw [if_neg (fun e => by subst e; rw [h] at hy; cases hy)]
  cp i y hy := by
    show (if i = b then c else g.cp i) = g.cp i
    rw [if_neg (fun e => by subst e; rw [h] at hy; cases hy)]
  mr _ h := h

theorem Sim.fresh (S : Sim base w0 g H w) : g.ph H.length = none := by
  cases h : g.ph H.length with
  | none => rfl
  | some x => exact absurd (S.dom _ _ h) (Nat.lt_irrefl _)

/-- the new block x is told by the abstract number H.length; nothing alive lies in x -/
theorem Sim.push (S : Sim base w0 g H w) {x k c : Nat} {ob : AObj} {o : Obj} (hx : base ≤ x) (hx' : x < w.heap.size) (ho : w.heap[x]? = some o)
    (hfz : ∀ o, g.fz x o = none) (hmk : ¬ g.mr x) (hal : ∀ b ob, H[b]? = some ob → ob ≠ .dead → g.ph b ≠ some x)
    (hr : ORel (g.phAdd H.length x k c) k c ob o) : Sim base w0 (g.phAdd H.length x k c) (H ++ [ob]) w := by
  have hle : g.le (g.phAdd H.length x k c) := Gh.phAdd_le S.fresh
  have hph : ∀ b y, (g.phAdd H.length x k c).ph b = some y → (b = H.length ∧ y = x) ∨ (b ≠ H.length ∧ g.ph b = some y) := by
    intro b y hy
    change (if b = H.length then some x else g.ph b) = some y at hy
    split at hy
    · cases hy; exact .inl ⟨by assumption, rfl⟩
    · exact .inr ⟨by assumption, hy⟩
  have hold : ∀ b ob', (H ++ [ob])[b]? = some ob' → b ≠ H.length → H[b]? = some ob' := by
    intro b ob' hb hne
    have hlt : b < (H ++ [ob]).length := (List.getElem?_eq_some_iff.1 hb).1
    rw [List.getElem?_append_left (by simp at hlt; omega)] at hb
    exact hb
  exact
  { below := S.below
    low := S.low
    fz := S.fz
    dom := fun b y hy => by
      rcases hph b y hy with ⟨rfl, _⟩ | ⟨_, h⟩
      · simp
      · have := S.dom b y h; simp; omega
    pos := fun b y hy => by
      rcases hph b y hy with ⟨_, rfl⟩ | ⟨_, h⟩
      · exact ⟨hx, hx'⟩
      · exact S.pos b y h
    sep := fun b y ob' hb hn hy => by
      rcases hph b y hy with ⟨_, rfl⟩ | ⟨hne, h⟩
      · exact ⟨hfz, hmk⟩
      · exact S.sep b y ob' (hold b ob' hb hne) hn h
    inj := fun b d y ob1 ob2 hb hn hd hn' hy hy' => by
      rcases hph b y hy with ⟨rfl, rfl⟩ | ⟨hne, h⟩
      · rcases hph d y hy' with ⟨rfl, _⟩ | ⟨hne', h'⟩
        · rfl
        · exact absurd h' (hal d ob2 (hold d ob2 hd hne') hn')
      · rcases hph d y hy' with ⟨rfl, rfl⟩ | ⟨hne', h'⟩
        · exact absurd h (hal b ob1 (hold b ob1 hb hne) hn)
        · exact S.inj b d y ob1 ob2 (hold b ob1 hb hne) hn (hold d ob2 hd hne') hn' h h'
    obj := fun b ob' hb hn => by
      by_cases hne : b = H.length
      · subst hne
        simp at hb
        subst hb
        exact ⟨x, o, by simp [Gh.phAdd], ho, by simpa [Gh.phAdd] using hr⟩
      · obtain ⟨y, oy, h1, h2, h3⟩ := S.obj b ob' (hold b ob' hb hne) hn
        refine ⟨y, oy, hle.ph _ _ h1, h2, ?_⟩
        rw [hle.ks _ _ h1, hle.cp _ _ h1]
        exact h3.mono hle
    marks := S.marks }

/-- a new block that is told as an own one -/
theorem Sim.alloc (S : Sim base w0 g H w) {k c : Nat} {ob : AObj} {o : Obj} (hg : w.grownBy w' none) (hx : w'.heap[w.heap.size]? = some o)
    (hr : ORel (g.phAdd H.length w.heap.size k c) k c ob o) : Sim base w0 (g.phAdd H.length w.heap.size k c) (H ++ [ob]) w' := by
  have S' := S.grow hg
  refine S'.push S.low (Array.getElem?_eq_some_iff.1 hx).1 hx (fun o => ?_) (fun h => ?_) (fun b ob _ _ h => ?_) hr
  · cases h : g.fz w.heap.size o with
    | none => rfl
    | some v => exact absurd (S.fzlt h) (Nat.lt_irrefl _)
  · exact absurd (S.marks _ h).2.1 (Nat.lt_irrefl _)
  · exact absurd (S.pos b _ h).2 (Nat.lt_irrefl _)

/-- a new row that is never written again -/
def Gh.fzAdd (g : Gh) (x : Nat) (cs : Array Value) : Gh := { g with fz := fun b o => if b = x then cs[o]? else g.fz b o }

theorem Sim.fzAdd_le (S : Sim base w0 g H w) (cs : Array Value) : g.le (g.fzAdd w.heap.size cs) where
  fz b o v h := by
    show (if b = w.heap.size then cs[o]? else g.fz b o) = some v
    rw [if_neg (fun e => by subst e; exact absurd (S.fzlt h) (Nat.lt_irrefl _))]; exact h
  ph _ _ h := h
  ks _ _ _ := rfl
  cp _ _ _ := rfl
  mr _ h := h

theorem Sim.allocFz (S : Sim base w0 g H w) (cs : Array Value) (t : TypeId) : Sim base w0 (g.fzAdd w.heap.size cs) H (w.alloc (.cells cs t)) := by
  have hg : w.grownBy (w.alloc (.cells cs t)) none := World.grownBy_alloc w _ none
  have S' := S.grow hg
  have hle := S.fzAdd_le cs
  exact
  { below := S'.below
    low := S'.low
    fz := fun b o v h => by
      change (if b = w.heap.size then cs[o]? else g.fz b o) = some v at h
      split at h
      · rename_i e; subst e; rw [World.cell?_alloc_new]; exact h
      · exact S'.fz b o v h
    dom := S'.dom
    pos := S'.pos
    sep := fun b x ob hb hn hx => by
      refine ⟨fun o => ?_, (S'.sep b x ob hb hn hx).2⟩
      show (if x = w.heap.size then cs[o]? else g.fz x o) = none
      rw [if_neg (fun e => by subst e; exact absurd (S.pos b _ hx).2 (Nat.lt_irrefl _))]
      exact (S'.sep b x ob hb hn hx).1 o
    inj := S'.inj
    obj := fun b ob hb hn => let ⟨x, o, h1, h2, h3⟩ := S'.obj b ob hb hn; ⟨x, o, h1, h2, h3.mono hle⟩
    marks := S'.marks }

/-- an own row of cells becomes one that never turns again: its abstract block dies -/
def Gh.fzOwn (g : Gh) (x n : Nat) (cs : Array Value) : Gh := { g with fz := fun b o => if b = x then (if o < n then cs[o]? else none) else g.fz b o }

theorem Sim.freeze_le (S : Sim base w0 g H w) {b x : Nat} {ob : AObj} (hb : H[b]? = some ob) (hn : ob ≠ .dead) (hx : g.ph b = some x) (n : Nat) (cs : Array Value) : g.le (g.fzOwn x n cs) where
  fz c o v h := by
    show (if c = x then _ else g.fz c o) = some v
    rw [if_neg (fun e => by subst e; rw [(S.sep b c ob hb hn hx).1 o] at h; cases h)]; exact h
  ph _ _ h := h
  ks _ _ _ := rfl
  cp _ _ _ := rfl
  mr _ h := h

theorem Sim.freeze (S : Sim base w0 g H w) {b x n : Nat} {ob : AObj} {cur : Array Value} {t : TypeId} (hb : H[b]? = some ob) (hn : ob ≠ .dead) (hx : g.ph b = some x)
    (ho : w.heap[x]? = some (.cells cur t (0, 0))) : Sim base w0 (g.fzOwn x n cur) (H.set b .dead) w := by
  have hle := S.freeze_le hb hn hx n cur
  have S' := S.dead b
  have hout : ∀ c oc, (H.set b .dead)[c]? = some oc → oc ≠ .dead → H[c]? = some oc ∧ c ≠ b := by
    intro c oc hc hnc
    rw [List.getElem?_set] at hc
    split at hc
    · split at hc
      · cases hc; exact absurd rfl hnc
      · cases hc
    · exact ⟨hc, fun e => by subst e; contradiction⟩
  exact
  { below := S'.below
    low := S'.low
    fz := fun c o v h => by
      change (if c = x then (if o < n then cur[o]? else none) else g.fz c o) = some v at h
      split at h
      · rename_i e; subst e
        split at h
        · simp [World.cell?, ho, h]
        · cases h
      · exact S'.fz c o v h
    dom := S'.dom
    pos := S'.pos
    sep := fun c y oc hc hnc hy => by
      obtain ⟨hc', hne⟩ := hout c oc hc hnc
      refine ⟨fun o => ?_, (S'.sep c y oc hc hnc hy).2⟩
      show (if y = x then _ else g.fz y o) = none
      rw [if_neg (fun e => by subst e; exact hne (S.inj c b y oc ob hc' hnc hb hn hy hx))]
      exact (S'.sep c y oc hc hnc hy).1 o
    inj := S'.inj
    obj := fun c oc hc hnc => let ⟨y, o, h1, h2, h3⟩ := S'.obj c oc hc hnc; ⟨y, o, h1, h2, h3.mono hle⟩
    marks := S'.marks }

/-- a block for a loop's deferred calls -/
def Gh.mkAdd (g : Gh) (x : Nat) : Gh := { g with mr := fun r => r = x ∨ g.mr r }

theorem Sim.mkAdd_le (x : Nat) : g.le (g.mkAdd x) := ⟨fun _ _ _ h => h, fun _ _ h => h, fun _ _ _ => rfl, fun _ _ _ => rfl, fun _ h => .inr h⟩

theorem Sim.allocMk (S : Sim base w0 g H w) : Sim base w0 (g.mkAdd w.heap.size) H (w.alloc (.deferred (some []))) := by
  have S' := S.grow (World.grownBy_alloc w (.deferred (some [])) none)
  have hle : g.le (g.mkAdd w.heap.size) := Sim.mkAdd_le _
  exact
  { below := S'.below
    low := S'.low
    fz := S'.fz
    dom := S'.dom
    pos := S'.pos
    sep := fun b x ob hb hn hx => ⟨(S'.sep b x ob hb hn hx).1, fun h => by
      rcases h with h | h
      · subst h; exact absurd (S.pos b _ hx).2 (Nat.lt_irrefl _)
      · exact (S'.sep b x ob hb hn hx).2 h⟩
    inj := S'.inj
    obj := fun c oc hc hnc => let ⟨y, o, h1, h2, h3⟩ := S'.obj c oc hc hnc; ⟨y, o, h1, h2, h3.mono hle⟩
    marks := fun r hr => by
      rcases hr with hr | hr
      · subst hr; exact ⟨S.low, by simp, heap_alloc_new w _⟩
      · exact S'.marks r hr }

end Go.Proofs.Ytphfdbmbdaninaa.Ab
