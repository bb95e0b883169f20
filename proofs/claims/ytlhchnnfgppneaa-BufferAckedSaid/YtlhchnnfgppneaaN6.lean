/- Buffers: what Put does, plain. -/
import Derived.Test.YtlhchnnfgppneaaN5
namespace Go.Proofs.Ytlhchnnfgppneaa.Ab
open Go Go.RowKit Go.Proofs
set_option linter.unusedSimpArgs false
set_option linter.unusedVariables false
attribute [local irreducible] Awp wpO thenQ blockQ bodyQ ACalls stepA

theorem sgn_cases (x y : Int) : (x < y ∧ sgn x y = -1) ∨ (x > y ∧ sgn x y = 1) ∨ (x = y ∧ sgn x y = 0) := by
  unfold sgn
  by_cases h : x < y
  · exact .inl ⟨h, if_pos h⟩
  · by_cases k : x > y
    · exact .inr (.inl ⟨k, by rw [if_neg h, if_pos k]⟩)
    · exact .inr (.inr ⟨by omega, by rw [if_neg h, if_neg k]⟩)
theorem cmpR_neg {a b : Item} : cmpR a b < 0 ↔ lessR b a := by
  unfold cmpR lessR orL
  rcases sgn_cases b.cls a.cls with ⟨h1, e1⟩ | ⟨h1, e1⟩ | ⟨h1, e1⟩ <;> rw [e1]
  · simp; omega
  · simp; omega
  · rcases sgn_cases b.made a.made with ⟨h2, e2⟩ | ⟨h2, e2⟩ | ⟨h2, e2⟩ <;> simp [orL, e2]
    · omega
    · omega
    · rcases sgn_cases a.id b.id with ⟨h3, e3⟩ | ⟨h3, e3⟩ | ⟨h3, e3⟩ <;> simp [orL, e3] <;> omega
theorem lessR_trans {a b c : Item} (h : lessR a b) (k : lessR b c) : lessR a c := by unfold lessR at *; omega
theorem lessR_total {a b : Item} (h : a.id ≠ b.id) : lessR a b ∨ lessR b a := by unfold lessR; omega
theorem lessR_asymm {a b : Item} (h : lessR a b) : ¬ lessR b a := by unfold lessR at *; omega

/-- where a record goes -/
def placeN : List Hd → Item → Nat
  | [], _ => 0
  | h :: l, r => if cmpR h.r r < 0 then placeN l r + 1 else 0
theorem placeN_le (r : Item) : ∀ L : List Hd, placeN L r ≤ L.length := by
  intro L
  induction L with
  | nil => exact Nat.le_refl _
  | cons h l ih => unfold placeN; split <;> simp <;> omega
theorem placeN_spec {r : Item} : ∀ {L : List Hd}, L.Pairwise (fun x y => lessR y.r x.r) → ∀ i h, L[i]? = some h → (cmpR h.r r < 0 ↔ i < placeN L r) := by
  intro L
  induction L with
  | nil => intro _ i h hi; simp at hi
  | cons x l ih =>
    intro hp i h hi
    have hp' := List.pairwise_cons.1 hp
    unfold placeN
    cases i with
    | zero =>
      simp at hi; subst hi
      split
      · rename_i k; simp [k]
      · rename_i k; simp; omega
    | succ i =>
      have hi' : l[i]? = some h := by simpa using hi
      split
      · rw [ih hp'.2 i h hi']; omega
      · rename_i k
        refine ⟨fun k2 => ?_, fun k2 => by omega⟩
        exfalso
        apply k
        rw [cmpR_neg] at *
        exact lessR_trans k2 (hp'.1 h (List.mem_of_getElem? hi'))

def Bf.ins (S : Bf) (r : Item) : Bf := { S with used := S.used + r.size, L := insA (placeN S.L r) ⟨r, false, -1⟩ S.L }
def Bf.drop (S : Bf) : Bf := match S.L.getLast? with
  | some h => { S with used := S.used - h.bytes, L := S.L.dropLast }
  | none => S
def Bf.lastId (S : Bf) : Int := match S.L.getLast? with
  | some h => h.r.id
  | none => 0
def nextJ (S : Bf) : Option Nat := if S.L.length ≤ 256 then lastL S.L S.L.length else none
def Bf.over (S : Bf) : Prop := S.used > S.cap ∨ S.L.length > 256
instance (S : Bf) : Decidable S.over := by unfold Bf.over; infer_instance
def shr : Nat → Bf → List Int → Bf × List Int
  | 0, S, ds => (S, ds)
  | k + 1, S, ds => if S.over then (match nextJ S with
    | some j => shr k (S.press j) ds
    | none => shr k S.drop (ds ++ [S.lastId])) else (S, ds)
def Bf.mu (S : Bf) : Nat := S.L.length + S.L.countP loose
def putE (S : Bf) (r : Item) : Int := if ¬ r.ok then 2 else if r.id ∈ idsL S.L then 12 else if r.pk > S.cap then 14 else 0
def putR (S : Bf) (r : Item) : Bf × List Int := if putE S r = 0 then shr (S.ins r).mu (S.ins r) [] else (S, [])

theorem sum_set {f : Hd → Int} {h h' : Hd} : ∀ {L : List Hd} {j : Nat}, L[j]? = some h → ((L.set j h').map f).sum = (L.map f).sum - f h + f h' := by
  intro L
  induction L with
  | nil => intro j hj; simp at hj
  | cons x l ih =>
    intro j hj
    cases j with
    | zero => simp at hj; subst hj; simp; omega
    | succ j =>
      have := ih (j := j) (by simpa using hj)
      simp only [List.set_cons_succ, List.map_cons, List.sum_cons, this]; omega
theorem insA_map {α β : Type} (f : α → β) (a : Nat) (x : α) (l : List α) : (insA a x l).map f = insA a (f x) (l.map f) := by simp [insA, List.map_take, List.map_drop]
theorem insA_len {α : Type} {a : Nat} {x : α} {l : List α} : (insA a x l).length = l.length + 1 := by simp [insA]; omega
theorem insA_perm {α : Type} (a : Nat) (x : α) (l : List α) : (insA a x l).Perm (x :: l) := by
  unfold insA
  refine List.perm_middle.trans ?_
  rw [List.take_append_drop]
theorem insA_mem {α : Type} {a : Nat} {x y : α} {l : List α} : y ∈ insA a x l ↔ y = x ∨ y ∈ l := by rw [(insA_perm a x l).mem_iff]; simp
theorem sum_ins {f : Hd → Int} (a : Nat) (x : Hd) (L : List Hd) : ((insA a x L).map f).sum = f x + (L.map f).sum := by
  have h : ((L.take a).map f).sum + ((L.drop a).map f).sum = (L.map f).sum := by rw [← List.sum_append, ← List.map_append, List.take_append_drop]
  simp only [insA, List.map_append, List.map_cons, List.sum_append, List.sum_cons]
  omega

theorem Good.insG {S : Bf} (h : Good S) (hl : S.L.length ≤ 256) {r : Item} (hr : r.ok) (hn : r.id ∉ idsL S.L) : Good (S.ins r) := by
  have hpl := placeN_le r S.L
  refine ⟨?_, ?_, ?_, ?_, h.cap, ?_⟩
  · show (idsL (insA _ _ _)).Nodup
    unfold idsL
    rw [insA_map, (insA_perm _ _ _).nodup_iff, List.nodup_cons]
    exact ⟨hn, h.nd⟩
  · intro x hx
    rcases insA_mem.1 hx with rfl | hx
    · exact hr
    · exact h.ok x hx
  · show S.used + r.size = _
    rw [show (S.ins r).L = insA (placeN S.L r) ⟨r, false, -1⟩ S.L from rfl, sum_ins, h.sum]
    show _ = r.size + _
    omega
  · show (insA _ _ _).length ≤ 257
    rw [insA_len]; omega
  · show (insA _ _ _).Pairwise _
    have hs := placeN_spec h.srt (r := r)
    unfold insA
    refine List.pairwise_append.2 ⟨h.srt.sublist (List.take_sublist _ _), List.pairwise_cons.2 ⟨?_, h.srt.sublist (List.drop_sublist _ _)⟩, ?_⟩
    · intro x hx
      obtain ⟨i, hi⟩ := List.getElem?_of_mem hx
      rw [List.getElem?_drop] at hi
      have h1 := (hs _ x hi)
      have h2 : ¬ cmpR x.r r < 0 := fun k => by have := h1.1 k; omega
      rw [cmpR_neg] at h2
      have hne : r.id ≠ x.r.id := fun e => hn (by rw [e]; exact List.mem_map.2 ⟨x, List.mem_of_getElem? hi, rfl⟩)
      rcases lessR_total hne with k | k
      · exact absurd k h2
      · exact k
    · intro x hx y hy
      obtain ⟨i, hi⟩ := List.getElem?_of_mem hx
      rw [List.getElem?_take] at hi
      split at hi
      · rename_i hlt
        have h1 := (hs _ x hi).2 hlt
        rw [cmpR_neg] at h1
        rcases List.mem_cons.1 hy with rfl | hy
        · exact h1
        · obtain ⟨k, hk⟩ := List.getElem?_of_mem hy
          rw [List.getElem?_drop] at hk
          have g1 := List.getElem?_eq_some_iff.1 hi
          have g2 := List.getElem?_eq_some_iff.1 hk
          have := List.pairwise_iff_getElem.1 h.srt i (placeN S.L r + k) g1.1 g2.1 (by omega)
          rwa [g1.2, g2.2] at this
      · cases hi
def recs (L : List Hd) : List Item := L.map fun h => h.r
theorem recs_set {L : List Hd} {j : Nat} {h h' : Hd} (hj : L[j]? = some h) (he : h'.r = h.r) : recs (L.set j h') = recs L := by
  unfold recs
  rw [List.map_set]
  refine List.ext_getElem? fun i => ?_
  rw [List.getElem?_set]
  split
  · rename_i e; subst e
    rw [List.length_map, if_pos (List.getElem?_eq_some_iff.1 hj).1, List.getElem?_map, hj, Option.map_some, he]
  · rfl
theorem srt_recs {L : List Hd} : L.Pairwise (fun x y => lessR y.r x.r) ↔ (recs L).Pairwise (fun x y => lessR y x) := by unfold recs; rw [List.pairwise_map]
theorem press_eq {S : Bf} {j : Nat} {x : Hd} (hj : S.L[j]? = some x) : S.press j = { S with used := S.used - (x.r.size - x.r.pk), L := S.L.set j { x with sm := true } } := by unfold Bf.press; rw [hj]
theorem loose_iff {x : Hd} : loose x = true ↔ x.sm = false ∧ x.r.pk < x.r.size := by unfold loose; cases x.sm <;> simp
theorem Good.pressG {S : Bf} (h : Good S) {j : Nat} {x : Hd} (hj : S.L[j]? = some x) (hl : loose x = true) : Good (S.press j) := by
  rw [press_eq hj]
  refine ⟨?_, ?_, ?_, ?_, h.cap, ?_⟩
  · show (idsL (S.L.set j { x with sm := true })).Nodup
    rw [idsL_set (h' := { x with sm := true }) hj rfl]; exact h.nd
  · intro y hy
    rcases List.mem_or_eq_of_mem_set hy with m | rfl
    · exact h.ok y m
    · exact h.ok x (List.mem_of_getElem? hj)
  · show S.used - (x.r.size - x.r.pk) = ((S.L.set j { x with sm := true }).map Hd.bytes).sum
    rw [sum_set hj, h.sum]
    have h1 := (loose_iff.1 hl).1
    have e1 : x.bytes = x.r.size := by unfold Hd.bytes; rw [h1]; rfl
    have e2 : Hd.bytes { x with sm := true } = x.r.pk := rfl
    rw [e1, e2]; omega
  · show (S.L.set j _).length ≤ 257
    rw [List.length_set]; exact h.len
  · show (S.L.set j { x with sm := true }).Pairwise _
    rw [srt_recs, recs_set (h' := { x with sm := true }) hj rfl, ← srt_recs]; exact h.srt
theorem last_split {L : List Hd} {x : Hd} (h : L.getLast? = some x) : L = L.dropLast ++ [x] := by
  obtain ⟨ys, e⟩ := List.getLast?_eq_some_iff.1 h
  subst e; simp
theorem drop_eq {S : Bf} {x : Hd} (h : S.L.getLast? = some x) : S.drop = { S with used := S.used - x.bytes, L := S.L.dropLast } ∧ S.lastId = x.r.id := by unfold Bf.drop Bf.lastId; rw [h]; exact ⟨rfl, rfl⟩
theorem Good.dropG {S : Bf} (h : Good S) {x : Hd} (hx : S.L.getLast? = some x) : Good S.drop := by
  rw [(drop_eq hx).1]
  have hs := last_split hx
  have hsub : S.L.dropLast.Sublist S.L := List.dropLast_sublist _
  refine ⟨?_, fun y hy => h.ok y (hsub.subset hy), ?_, ?_, h.cap, h.srt.sublist hsub⟩
  · exact h.nd.sublist (hsub.map _)
  · show S.used - x.bytes = (S.L.dropLast.map Hd.bytes).sum
    have : (S.L.map Hd.bytes).sum = (S.L.dropLast.map Hd.bytes).sum + x.bytes := by
      conv => lhs; rw [hs]
      simp
    rw [h.sum]; omega
  · show S.L.dropLast.length ≤ 257
    have := h.len
    rw [List.length_dropLast]; omega
theorem mu_press {S : Bf} {j : Nat} {x : Hd} (hj : S.L[j]? = some x) (hl : loose x = true) : (S.press j).mu + 1 = S.mu := by
  rw [press_eq hj]
  have hlt := (List.getElem?_eq_some_iff.1 hj)
  show (S.L.set j { x with sm := true }).length + (S.L.set j { x with sm := true }).countP loose + 1 = S.L.length + S.L.countP loose
  rw [List.length_set, List.countP_set hlt.1]
  have h1 : loose (S.L[j]'hlt.1) = true := by rw [hlt.2]; exact hl
  have h2 : loose { x with sm := true } = false := rfl
  have h3 : 0 < S.L.countP loose := List.countP_pos_iff.2 ⟨x, List.mem_of_getElem? hj, hl⟩
  rw [h1, h2]
  simp
  omega
theorem mu_drop {S : Bf} {x : Hd} (hx : S.L.getLast? = some x) : S.drop.mu + 1 ≤ S.mu := by
  rw [(drop_eq hx).1]
  have hs := last_split hx
  have h1 : (S.L.dropLast).countP loose ≤ S.L.countP loose := (List.dropLast_sublist _).countP_le
  have h2 : S.L.length = S.L.dropLast.length + 1 := by
    have := congrArg List.length hs
    rw [List.length_append, List.length_singleton] at this
    exact this
  show S.L.dropLast.length + (S.L.dropLast).countP loose + 1 ≤ S.L.length + S.L.countP loose
  omega
theorem over_ne {S : Bf} (h : Good S) (ho : S.over) : ∃ x, S.L.getLast? = some x := by
  cases e : S.L.getLast? with
  | some x => exact ⟨x, rfl⟩
  | none =>
    exfalso
    have hn : S.L = [] := List.getLast?_eq_none_iff.1 e
    have hs := h.sum
    have hc := h.cap
    unfold Bf.over at ho
    rw [hn] at hs ho
    simp at hs ho
    omega
theorem nextJ_some {S : Bf} {j : Nat} (h : nextJ S = some j) : S.L.length ≤ 256 ∧ ∃ x, S.L[j]? = some x ∧ loose x = true := by
  unfold nextJ at h
  split at h
  · rename_i hl; exact ⟨hl, (lastL_spec h).2.1⟩
  · cases h

/-- what is so while records are pressed and dropped -/
structure Shr (S0 S : Bf) (ds : List Int) : Prop where
  good : Good S
  cap : S.cap = S0.cap
  time : S.time = S0.time
  recs : recs S.L = (Ab.recs S0.L).take S.L.length
  len : S.L.length + ds.length = S0.L.length
  drp : ∀ d ∈ ds, ∃ x ∈ (Ab.recs S0.L).drop S.L.length, x.id = d
  keep : ∀ (i : Nat) (x y : Hd), S.L[i]? = some x → S0.L[i]? = some y → (y.sm = true → x.sm = true) ∧ x.sent = y.sent
  no : S0.L.length ≤ 256 → ds ≠ [] → ∀ x ∈ S.L, loose x = false
theorem Shr.start {S : Bf} (h : Good S) : Shr S S [] := ⟨h, rfl, rfl, by rw [List.take_of_length_le (by simp [Ab.recs])], by simp, by simp, fun i x y h1 h2 => by rw [h1] at h2; cases h2; exact ⟨id, rfl⟩, fun _ h => absurd rfl h⟩
theorem Shr.pressS {S0 S : Bf} {ds : List Int} (h : Shr S0 S ds) {j : Nat} (hj : nextJ S = some j) : Shr S0 (S.press j) ds := by
  obtain ⟨_, x, hx, hl⟩ := nextJ_some hj
  have hg := h.good.pressG hx hl
  have hjs := (loose_iff.1 hl).1
  rw [press_eq hx] at hg ⊢
  have hlen : (S.L.set j { x with sm := true }).length = S.L.length := List.length_set ..
  refine ⟨hg, h.cap, h.time, ?_, ?_, ?_, ?_, ?_⟩
  · show Ab.recs (S.L.set j { x with sm := true }) = _
    rw [hlen, recs_set (h' := { x with sm := true }) hx rfl]; exact h.recs
  · show (S.L.set j _).length + _ = _
    rw [hlen]; exact h.len
  · show ∀ d ∈ ds, ∃ y ∈ (Ab.recs S0.L).drop (S.L.set j _).length, _
    rw [hlen]; exact h.drp
  · intro i a b ha hb
    have ha' : (S.L.set j { x with sm := true })[i]? = some a := ha
    rw [List.getElem?_set] at ha'
    split at ha'
    · rename_i e; subst e
      rw [if_pos (List.getElem?_eq_some_iff.1 hx).1] at ha'
      cases ha'
      exact ⟨fun _ => rfl, (h.keep _ _ _ hx hb).2⟩
    · exact h.keep i a b ha' hb
  · intro h0 hd y hy
    have := h.no h0 hd x (List.mem_of_getElem? hx)
    rw [hl] at this; cases this
theorem Shr.dropS {S0 S : Bf} {ds : List Int} (h : Shr S0 S ds) (ho : S.over) (hj : nextJ S = none) : Shr S0 S.drop (ds ++ [S.lastId]) := by
  obtain ⟨x, hx⟩ := over_ne h.good ho
  have hg := h.good.dropG hx
  obtain ⟨e1, e2⟩ := drop_eq hx
  have hs := last_split hx
  have hlen : S.L.length = S.L.dropLast.length + 1 := by
    have := congrArg List.length hs
    rw [List.length_append, List.length_singleton] at this
    exact this
  rw [e2]
  rw [e1] at hg ⊢
  have hl2 := h.len
  have hr0 : (Ab.recs S0.L).length = S0.L.length := by simp [Ab.recs]
  have hat : (Ab.recs S0.L)[S.L.dropLast.length]? = some x.r := by
    have h1 : (Ab.recs S.L)[S.L.dropLast.length]? = some x.r := by
      unfold Ab.recs
      rw [List.getElem?_map]
      conv => lhs; rw [hs]
      simp
    rw [h.recs, List.getElem?_take, if_pos (by omega)] at h1
    exact h1
  refine ⟨hg, h.cap, h.time, ?_, ?_, ?_, ?_, ?_⟩
  · show Ab.recs S.L.dropLast = (Ab.recs S0.L).take S.L.dropLast.length
    have h1 : Ab.recs S.L = Ab.recs S.L.dropLast ++ [x.r] := by
      have := congrArg Ab.recs hs
      unfold Ab.recs at this ⊢
      rw [List.map_append] at this
      exact this
    have h2 := h.recs
    rw [h1, hlen, List.take_add_one, hat] at h2
    exact (List.append_inj' h2 (by simp)).1
  · show S.L.dropLast.length + (ds ++ [x.r.id]).length = _
    simp only [List.length_append, List.length_singleton]; omega
  · intro d hd
    show ∃ y ∈ (Ab.recs S0.L).drop S.L.dropLast.length, y.id = d
    have hdr : (Ab.recs S0.L).drop S.L.dropLast.length = x.r :: (Ab.recs S0.L).drop S.L.length := by
      have hlt : S.L.dropLast.length < (Ab.recs S0.L).length := (List.getElem?_eq_some_iff.1 hat).1
      rw [List.drop_eq_getElem_cons hlt, (List.getElem?_eq_some_iff.1 hat).2, hlen]
    rw [hdr]
    rcases List.mem_append.1 hd with m | m
    · obtain ⟨y, hy, e⟩ := h.drp d m; exact ⟨y, by simp [hy], e⟩
    · simp at m; exact ⟨x.r, by simp, m.symm⟩
  · intro i a b ha hb
    have ha' : S.L.dropLast[i]? = some a := ha
    have hi := (List.getElem?_eq_some_iff.1 ha').1
    have : S.L[i]? = some a := by
      rw [hs, List.getElem?_append_left hi]; exact ha'
    exact h.keep i a b this hb
  · intro h0 _ y hy
    have hy' : y ∈ S.L.dropLast := hy
    obtain ⟨i, hi⟩ := List.getElem?_of_mem hy'
    have hil := (List.getElem?_eq_some_iff.1 hi).1
    have hyL : S.L[i]? = some y := by rw [hs, List.getElem?_append_left hil]; exact hi
    unfold nextJ at hj
    rw [if_pos (by omega)] at hj
    exact lastL_no hj i y (by omega) hyL
theorem shr_spec : ∀ (k : Nat) {S0 S : Bf} {ds : List Int}, Shr S0 S ds → S.mu ≤ k → Shr S0 (shr k S ds).1 (shr k S ds).2 ∧ ¬ (shr k S ds).1.over
  | 0, S0, S, ds, h, hm => by
    refine ⟨h, fun ho => ?_⟩
    obtain ⟨x, hx⟩ := over_ne h.good ho
    have := mu_drop hx
    omega
  | k + 1, S0, S, ds, h, hm => by
    unfold shr
    by_cases ho : S.over
    · rw [if_pos ho]
      cases hj : nextJ S with
      | some j =>
        obtain ⟨_, x, hx, hl⟩ := nextJ_some hj
        have := mu_press hx hl
        exact shr_spec k (h.pressS hj) (by omega)
      | none =>
        obtain ⟨x, hx⟩ := over_ne h.good ho
        have := mu_drop hx
        exact shr_spec k (h.dropS ho hj) (by omega)
    · rw [if_neg ho]; exact ⟨h, ho⟩

end Go.Proofs.Ytlhchnnfgppneaa.Ab
