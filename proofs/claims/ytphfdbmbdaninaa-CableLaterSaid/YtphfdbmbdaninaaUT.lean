/- Cables: what later nodes and greater limits do to what is granted, plain. -/
import Derived.Test.YtphfdbmbdaninaaUN
namespace Go.Proofs.Ytphfdbmbdaninaa.Ab
open Go Go.RowKit Go.Proofs
set_option linter.unusedSimpArgs false
set_option linter.unusedVariables false
attribute [local irreducible] Awp wpO thenQ blockQ bodyQ ACalls stepA

theorem Awp.ofVsL {P : Program} {n : Nat} {rd : Option Nat} {c : Code} {T : Env} {H H' : Hp} {Q : Exit → Env → Hp → Prop} (hv : Vs H (.val undef) H (.val undef) H') (h : Awp P n rd c T H' Q) : Awp P n rd c T H Q := by
  unfold Awp at *
  intro base w0 g w a r S hTR hr
  obtain ⟨g', h2, h3, _⟩ := hv base w0 g g w undef (fun b x hx => S.dom b x hx) (fun b ob hb hn => by
    obtain ⟨x, o, _, _, k3⟩ := S.obj b ob hb hn
    exact k3.bel (fun b x hx => S.dom b x hx)) (Gh.le.refl g) S (.val _)
  refine wpIn_mono (h base w0 g' w a r h3 (hTR.mono h2) (hr.mono h2)) fun e a2 w2 ⟨T2, H2, g2, ds, k1, k2, k3, k4, k5, k6⟩ => ?_
  exact ⟨T2, H2, g2, ds, k1, h2.trans k2, k3, k4, k5, by simpa using (Marks.nil g g').append k6 h2 k2⟩

theorem gA_set_ne {g : List Int} {k i : Nat} {v : Int} (h : i ≠ k) : gA (g.set k v) i = gA g i := by
  unfold gA
  rw [List.getD_eq_getElem?_getD, List.getElem?_set_ne (Ne.symm h), List.getD_eq_getElem?_getD]
theorem fold_keep {l : List Nd} {req : List Int} {k : Nat} : ∀ (o : List Nat) (g : List Int), k ∉ o → gA (o.foldl (grant l req) g) k = gA g k
  | [], g, _ => rfl
  | x :: o, g, h => by
    show gA (o.foldl (grant l req) (grant l req g x)) k = gA g k
    rw [fold_keep o _ (fun m => h (by simp [m]))]
    exact gA_set_ne (fun e => h (by simp [e]))
theorem fold_congr {l : List Nd} {req q : List Int} : ∀ (o : List Nat) (g : List Int), (∀ k ∈ o, gA req k = gA q k) → o.foldl (grant l req) g = o.foldl (grant l q) g
  | [], g, _ => rfl
  | x :: o, g, h => by
    show o.foldl (grant l req) (grant l req g x) = o.foldl (grant l q) (grant l q g x)
    have e : grant l req g x = grant l q g x := by unfold grant; rw [h x (by simp)]
    rw [e]
    exact fold_congr o _ fun k hk => h k (by simp [hk])
theorem shrG_at {l : List Nd} {req : List Int} {o : List Nat} {j k : Nat} (hn : o.Nodup) (h : o[j]? = some k) : gA (shrG l req o) k = gA (shrG l req (o.take (j + 1))) k := by
  have hs : o = o.take (j + 1) ++ o.drop (j + 1) := (List.take_append_drop _ _).symm
  have hk : k ∈ o.take (j + 1) := by rw [List.take_add_one, h]; simp
  have hno : k ∉ o.drop (j + 1) := by
    intro m
    rw [hs] at hn
    exact (List.nodup_append.1 hn).2.2 k hk k m rfl
  unfold shrG
  conv => lhs; rw [hs, List.foldl_append]
  exact fold_keep _ _ hno

/-- what a node is granted does not depend on the requests of nodes with lesser ranks -/
theorem shr_later {l : List Nd} {req q r : List Int} {n : Nat} {x : Int} (h : ∀ k, x ≤ gA r k → gA req k = gA q k) {k : Nat} (hk : k < n) (hx : x ≤ gA r k) :
    gA (shrG l req (ordL r n)) k = gA (shrG l q (ordL r n)) k := by
  have hp := ordL_perm r n
  have hnd : (ordL r n).Nodup := hp.nodup_iff.2 List.nodup_range
  obtain ⟨j, hj⟩ := List.getElem?_of_mem (hp.mem_iff.2 (by simpa using hk) : k ∈ ordL r n)
  rw [shrG_at hnd hj, shrG_at hnd hj]
  unfold shrG
  rw [fold_congr _ _ fun i hi => h i ?_]
  obtain ⟨m, hm⟩ := List.getElem?_of_mem hi
  rw [List.getElem?_take] at hm
  split at hm
  · rename_i hmj
    by_cases e : m = j
    · subst e; rw [hj] at hm; cases hm; exact hx
    · have h1 := List.getElem?_eq_some_iff.1 hm
      have h2 := List.getElem?_eq_some_iff.1 hj
      have := List.pairwise_iff_getElem.1 (ordL_pair r n) m j h1.1 h2.1 (by omega)
      rw [h1.2, h2.2] at this
      unfold Bef at this
      omega
  · cases hm

/-- the node that is taken first -/
theorem shr_first {l : List Nd} {req r : List Int} {n k : Nat} (hl : l.length = n) (h : (ordL r n)[0]? = some k) (hk : k < n) : gA (shrG l req (ordL r n)) k = getN l (List.replicate l.length 0) (gA req k) (pth l k) := by
  have hnd : (ordL r n).Nodup := (ordL_perm r n).nodup_iff.2 List.nodup_range
  rw [shrG_at hnd h, shrG_next h]
  show gA (grant l req (List.replicate l.length 0) k) k = _
  unfold grant
  rw [gA_set (by simp; omega), if_pos rfl]

/-- greater limits -/
def moreN (m : Int) (a : Nd) : Nd := { a with lim := min 3932160 (a.lim + m) }
def mrP (m : Int) (l : List Nd) (k : Nat) : List Nd := (List.range l.length).map fun i => if i < k then moreN m (l.getD i ⟨0,0,0,0,0,0,0,0⟩) else l.getD i ⟨0,0,0,0,0,0,0,0⟩
theorem mrP_len (m : Int) (l : List Nd) (k : Nat) : (mrP m l k).length = l.length := by simp [mrP]
theorem mrP_at {m : Int} {l : List Nd} {i : Nat} {a : Nd} (h : l[i]? = some a) (k : Nat) : (mrP m l k)[i]? = some (if i < k then moreN m a else a) := by
  have hi := (List.getElem?_eq_some_iff.1 h).1
  unfold mrP
  rw [List.getElem?_map, List.getElem?_range hi]
  simp [List.getD_eq_getElem?_getD, h]
theorem mrP_zero (m : Int) (l : List Nd) : mrP m l 0 = l := by
  refine List.ext_getElem? fun i => ?_
  by_cases h : i < l.length
  · obtain ⟨a, ha⟩ := nth h
    rw [mrP_at ha, ha]; simp
  · rw [List.getElem?_eq_none (by rw [mrP_len]; omega), List.getElem?_eq_none (by omega)]
theorem mrP_step {m : Int} {l : List Nd} {k : Nat} {a : Nd} (h : l[k]? = some a) : (mrP m l k).set k (moreN m a) = mrP m l (k + 1) := by
  have hk := (List.getElem?_eq_some_iff.1 h).1
  refine List.ext_getElem? fun i => ?_
  by_cases hi : i < l.length
  · obtain ⟨b, hb⟩ := nth hi
    rw [mrP_at hb, List.getElem?_set, mrP_len]
    by_cases e : k = i
    · subst e; rw [h] at hb; cases hb; simp [hk]
    · rw [if_neg e, mrP_at hb]
      by_cases c : i < k
      · rw [if_pos c, if_pos (by omega)]
      · rw [if_neg c, if_neg (by omega)]
  · rw [List.getElem?_eq_none (by rw [List.length_set, mrP_len]; omega), List.getElem?_eq_none (by rw [mrP_len]; omega)]
def mrC (m : Int) (c : Cb) : Cb := ⟨c.s, mrP m c.l c.l.length, false⟩
theorem mr_at {m : Int} {c : Cb} {i : Nat} {a : Nd} (h : c.l[i]? = some a) : (mrC m c).l[i]? = some (moreN m a) := by
  show (mrP m c.l c.l.length)[i]? = _
  rw [mrP_at h, if_pos (List.getElem?_eq_some_iff.1 h).1]
theorem mr_len (m : Int) (c : Cb) : (mrC m c).l.length = c.l.length := mrP_len _ _ _
theorem mr_good {m : Int} (hm : 0 ≤ m) {c : Cb} (hg : c.good) : (mrC m c).good := by
  obtain ⟨h1, h20, hs, hn⟩ := hg.h
  have hl := mr_len m c
  have hnode : ∀ i n, (mrC m c).l[i]? = some n → nodeOk i n := by
    intro i n hni
    have hi : i < c.l.length := by have := (List.getElem?_eq_some_iff.1 hni).1; rwa [hl] at this
    obtain ⟨a, ha⟩ := nth hi
    rw [mr_at ha] at hni
    cases hni
    obtain ⟨k1, k2, k3, k4, k5, k6⟩ := hn i a ha
    refine ⟨k1, k2, k3, ?_, k5, k6⟩
    show 0 ≤ min 3932160 (a.lim + m) ∧ min 3932160 (a.lim + m) ≤ 3932160
    omega
  refine ⟨?_, ?_⟩
  · unfold Cb.long; rw [hl]; omega
  · have hB : ∀ (l : List Nd) (k : Nat), (∀ i n, l[i]? = some n → nodeOk (k + i) n) → nodesB k l = true := by
      intro l
      induction l with
      | nil => intro k _; rfl
      | cons a l ih =>
        intro k h
        simp only [nodesB, Bool.and_eq_true, decide_eq_true_eq]
        exact ⟨by have := h 0 a rfl; simpa using this, ih (k + 1) fun i n hi => by have := h (i + 1) n (by simpa using hi); rwa [show k + (i + 1) = k + 1 + i by omega] at this⟩
    unfold Cb.code
    rw [hl, if_neg (by omega), if_neg (by rintro (h | h); omega; exact h hs), if_pos (hB _ 0 (by simpa using hnode))]
theorem parN_mr (m : Int) (c : Cb) (k : Nat) : parN (mrC m c).l k = parN c.l k := by
  by_cases h : k < c.l.length
  · obtain ⟨a, ha⟩ := nth h
    simp [parN, ha, mr_at ha, moreN]
  · have hl := mr_len m c
    simp [parN, List.getElem?_eq_none (show c.l.length ≤ k by omega), List.getElem?_eq_none (show (mrC m c).l.length ≤ k by omega)]
theorem pth_mr (m : Int) (c : Cb) (k : Nat) : pth (mrC m c).l k = pth c.l k := by
  have h := parN_mr m c
  induction k using Nat.strongRecOn with
  | _ k ih =>
    by_cases hk : 0 ≤ parN (mrC m c).l k ∧ (parN (mrC m c).l k).toNat < k
    · rw [pth_pos k hk, pth_pos k (by rw [← h]; exact hk), ih _ hk.2, h]
    · rw [pth, dif_neg hk, pth, dif_neg (by rw [← h]; exact hk)]
theorem lim_mr {m : Int} (hm : 0 ≤ m) {c : Cb} (hg : c.good) (i : Nat) : limA c.l i ≤ limA (mrC m c).l i := by
  by_cases h : i < c.l.length
  · obtain ⟨a, ha⟩ := nth h
    rw [limA_at ha, limA_at (mr_at ha)]
    have := (hg.h.2.2.2 i a ha).2.2.2.1
    show a.lim ≤ min 3932160 (a.lim + m)
    omega
  · have hl := mr_len m c
    unfold limA
    rw [List.getElem?_eq_none (show c.l.length ≤ i by omega), List.getElem?_eq_none (show (mrC m c).l.length ≤ i by omega)]
    exact Int.le_refl _
theorem getN_mono {l l' : List Nd} {g g' : List Int} (h : ∀ i, room l g i ≤ room l' g' i) : ∀ {p : List Nat} {q q' : Int}, q ≤ q' → getN l g q p ≤ getN l' g' q' p
  | [], q, q', h0 => h0
  | x :: p, q, q', h0 => getN_mono h (p := p) (by have := h x; show min q (room l g x) ≤ min q' (room l' g' x); omega)
theorem first_more {m : Int} (hm : 0 ≤ m) {c : Cb} (hg : c.good) {req r : List Int} {k : Nat} (h : (ordL r c.l.length)[0]? = some k) (hk : k < c.l.length) :
    gA (shrG c.l req (ordL r c.l.length)) k ≤ gA (shrG (mrC m c).l req (ordL r c.l.length)) k := by
  rw [shr_first rfl h hk, shr_first (mr_len m c) h hk, pth_mr]
  refine getN_mono (fun i => ?_) (Int.le_refl _)
  rw [room_zero, room_zero]
  exact lim_mr hm hg i

end Go.Proofs.Ytphfdbmbdaninaa.Ab
