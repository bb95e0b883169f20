/- Slices: literals, made ones, slices of slices, appends. -/
import Derived.Test.YtphfdbmbdaninaaA4
namespace Go.Proofs.Ytphfdbmbdaninaa.Ab
open Go Go.RowKit

variable {base : Nat} {w0 w w' : World} {g : Gh} {H : Hp} {P : Program}

/-- elements of k cells each, one behind the other -/
structure FRel (g : Gh) (k : Nat) (es : List (List AV)) (us : List Value) : Prop where
  size : us.length = es.length * k
  len : ∀ (i : Nat) (e : List AV), es[i]? = some e → e.length = k
  cell : ∀ (i : Nat) (e : List AV) (j : Nat) (c : AV), es[i]? = some e → e[j]? = some c → ∃ v, us[i * k + j]? = some v ∧ R g c v

theorem FRel.mono {g' : Gh} (hg : g.le g') {k : Nat} {es : List (List AV)} {us : List Value} (h : FRel g k es us) : FRel g' k es us :=
  ⟨h.size, h.len, fun i e j c he hc => let ⟨v, h1, h2⟩ := h.cell i e j c he hc; ⟨v, h1, h2.mono hg⟩⟩

theorem FRel.lt {k : Nat} {es : List (List AV)} {us : List Value} (h : FRel g k es us) {i j : Nat} {e : List AV} {c : AV} (he : es[i]? = some e) (hc : e[j]? = some c) : i * k + j < us.length := by
  obtain ⟨v, hv, _⟩ := h.cell i e j c he hc
  exact (List.getElem?_eq_some_iff.1 hv).1

theorem FRel.append {k : Nat} {es es' : List (List AV)} {us us' : List Value} (h : FRel g k es us) (h' : FRel g k es' us') : FRel g k (es ++ es') (us ++ us') := by
  refine ⟨by simp [h.size, h'.size, Nat.add_mul], fun i e he => ?_, fun i e j c he hc => ?_⟩
  · rw [List.getElem?_append] at he
    split at he
    · exact h.len i e he
    · exact h'.len _ e he
  · rw [List.getElem?_append] at he
    split at he
    · obtain ⟨v, hv, hR⟩ := h.cell i e j c he hc
      exact ⟨v, by rw [List.getElem?_append_left (h.lt he hc)]; exact hv, hR⟩
    · rename_i hge
      obtain ⟨v, hv, hR⟩ := h'.cell _ e j c he hc
      refine ⟨v, ?_, hR⟩
      have hle : us.length ≤ i * k + j := by rw [h.size]; exact Nat.le_trans (Nat.mul_le_mul_right k (by omega)) (Nat.le_add_right _ _)
      rw [List.getElem?_append_right hle, ← hv, h.size]
      congr 1
      have := Nat.sub_mul i es.length k
      have := Nat.mul_le_mul_right k (show es.length ≤ i by omega)
      omega

theorem FRel.nil (k : Nat) : FRel g k [] [] := ⟨by simp, by simp, by simp⟩

theorem FRel.orel {k cp : Nat} {es : List (List AV)} {us : List Value} (h : FRel g k es us) {cur : Array Value} {t : TypeId} (hs : cur.size = cp * k) (hl : es.length ≤ cp)
    (ht : cur.toList.take (es.length * k) = us) : ORel g k cp (.cells es t) (.cells cur t (0, 0)) := by
  refine .cells hs hl h.len (fun i e j c he hc => ?_)
  obtain ⟨v, hv, hR⟩ := h.cell i e j c he hc
  refine ⟨v, ?_, hR⟩
  rw [← ht, List.getElem?_take] at hv
  split at hv
  · simpa using hv
  · cases hv

theorem FRel.one {k : Nat} {es : List (List AV)} {us : List Value} (h : FRel g k es us) (hc : es.all (fun e => e.all AV.isCell) = true) (hk : 0 < k) : ∀ u ∈ us, u.oneCell' = true := by
  intro u hu
  obtain ⟨p, hp⟩ := List.getElem?_of_mem hu
  have hlt : p < es.length * k := by rw [← h.size]; exact (List.getElem?_eq_some_iff.1 hp).1
  have hi : p / k < es.length := Nat.div_lt_of_lt_mul (by rw [Nat.mul_comm]; exact hlt)
  have hj : p % k < k := Nat.mod_lt _ hk
  have he : es[p / k]? = some es[p / k] := by simp [hi]
  have hlen := h.len _ _ he
  have hce : es[p / k][p % k]? = some (es[p / k][p % k]'(by omega)) := by simp [hlen, hj]
  obtain ⟨v, hv, hR⟩ := h.cell _ _ _ _ he hce
  rw [Nat.mul_comm, Nat.div_add_mod] at hv
  rw [hv] at hp
  cases hp
  have h1 := List.all_eq_true.1 hc _ (List.getElem_mem hi)
  exact hR.isCell (List.all_eq_true.1 h1 _ (List.getElem_mem _))

theorem rsl_flat (S : Sim base w0 g H w) {es : List (List AV)} {ex : Bool} {x : Value} {k : Nat} (h : R g (.rsl es ex) x) (hk : 0 < k) (hlen : es.all (fun e => e.length == k) = true) (hne : ∀ a, x ≠ .slice a 0 0) :
    ∃ (ad : Addr) (cap : Nat) (us : List Value), x = .slice (some ad) es.length cap ∧ es.length ≤ cap ∧ (ex = true → cap = es.length) ∧ cap ≤ maxLen ∧ FRel g k es us ∧ ∀ j u, us[j]? = some u → w.cell? (ad.add j) = some u := by
  cases h with
  | rnil a => exact absurd rfl (hne a)
  | rsl vs hn hl hc hm hk' hf hr =>
    rename_i b o k' n cap
    subst hn
    have hl' : ∀ (i : Nat) (e : List AV), es[i]? = some e → e.length = k := fun i e he => by
      have := List.all_eq_true.1 hlen e (List.mem_of_getElem? he)
      simpa using this
    refine ⟨_, cap, (List.range (es.length * k)).map fun p => vs (p / k) (p % k), rfl, hl, hc, hm, ⟨by simp, hl', fun i e j c he hc => ?_⟩, fun p u hp => ?_⟩
    · have hj : j < k := by rw [← hl' i e he]; exact (List.getElem?_eq_some_iff.1 hc).1
      have hi : i < es.length := (List.getElem?_eq_some_iff.1 he).1
      have hlt := idx_lt hi hj
      refine ⟨vs i j, ?_, hr i e j c he hc⟩
      rw [List.getElem?_map, List.getElem?_range hlt, Option.map_some]
      have e1 : (i * k + j) / k = i := by rw [Nat.mul_comm, Nat.mul_add_div hk, Nat.div_eq_of_lt hj, Nat.add_zero]
      have e2 : (i * k + j) % k = j := by rw [Nat.mul_comm, Nat.mul_add_mod, Nat.mod_eq_of_lt hj]
      rw [e1, e2]
    · have hp' : p < es.length * k := by
        rcases Nat.lt_or_ge p (es.length * k) with h | h
        · exact h
        · simp [h] at hp
      rw [List.getElem?_map, List.getElem?_range hp', Option.map_some, Option.some.injEq] at hp
      subst hp
      have hi : p / k < es.length := Nat.div_lt_of_lt_mul (by rw [Nat.mul_comm]; exact hp')
      have hj : p % k < k := Nat.mod_lt _ hk
      have he : es[p / k]? = some es[p / k] := by simp [hi]
      have ek : k' = k := (hk' _ _ he).symm.trans (hl' _ _ he)
      subst ek
      rw [add_none]
      have := S.fz _ _ _ (hf (p / k') (p % k') hi hj)
      rw [Nat.add_assoc, Nat.mul_comm, Nat.div_add_mod] at this
      exact this

theorem msl_flat (S : Sim base w0 g H w) {b off len : Nat} {x : Value} {k : Nat} {es : List (List AV)} {t : TypeId} (h : R g (.msl b off len) x) (hb : H[b]? = some (.cells es t))
    (hfit : off + len ≤ es.length) (hlen : es.all (fun e => e.length == k) = true) (h0 : 0 < es.length) :
    ∃ (y cap : Nat) (cur : Array Value), x = .slice (some ⟨y, off * k, none⟩) len cap ∧ g.ph b = some y ∧ g.ks b = k ∧ len ≤ cap ∧ off + cap = g.cp b ∧ cap ≤ maxLen ∧ w.heap[y]? = some (.cells cur t (0, 0)) ∧ cur.size = g.cp b * k ∧
      FRel g k ((es.drop off).take len) ((cur.toList.drop (off * k)).take (len * k)) := by
  cases h with
  | msl hx hl hc hm =>
    rename_i y cap
    obtain ⟨z, o, h1, h2, h3⟩ := S.obj b _ hb (by simp)
    rw [hx] at h1; cases h1
    cases h3 with
    | cells hs hl' hk hr =>
      rename_i cur
      have hl'' : ∀ (i : Nat) (e : List AV), es[i]? = some e → e.length = k := fun i e he => by
        have := List.all_eq_true.1 hlen e (List.mem_of_getElem? he)
        simpa using this
      have ek : g.ks b = k := by
        have he : es[0]? = some es[0] := by simp [h0]
        exact (hk _ _ he).symm.trans (hl'' _ _ he)
      rw [ek] at hs hr
      refine ⟨_, cap, cur, by rw [ek], hx, ek, hl, hc, hm, h2, hs, ⟨?_, fun i e he => ?_, fun i e j c he hc' => ?_⟩⟩
      · have e1 := Nat.mul_le_mul_right k (show off + len ≤ g.cp b by omega)
        have e2 := Nat.add_mul off len k
        simp only [List.length_take, List.length_drop, Array.length_toList]
        rw [show min len (es.length - off) = len by omega]
        omega
      · rw [List.getElem?_take] at he
        split at he
        · rw [List.getElem?_drop] at he; exact hl'' _ e he
        · cases he
      · rw [List.getElem?_take] at he
        split at he
        · rename_i hi
          rw [List.getElem?_drop] at he
          obtain ⟨v, hv, hR⟩ := hr _ e j c he hc'
          refine ⟨v, ?_, hR⟩
          have hj : j < k := by rw [← hl'' _ e he]; exact (List.getElem?_eq_some_iff.1 hc').1
          rw [List.getElem?_take, if_pos (idx_lt hi hj), List.getElem?_drop, Array.getElem?_toList, ← hv]
          congr 1
          have := Nat.add_mul off i k
          omega
        · cases he

/-- an own row of cells, told under a new number -/
theorem own_new (S : Sim base w0 g H w) {es : List (List AV)} {us : List Value} {cur : Array Value} {t : TypeId} {k cp : Nat} (hF : FRel g k es us) (hs : cur.size = cp * k) (hl : es.length ≤ cp)
    (ht : cur.toList.take (es.length * k) = us) (hm : cp ≤ maxLen) (hg : w.grownBy w' none) (hx : w'.heap[w.heap.size]? = some (.cells cur t (0, 0))) :
    ∃ g', g.le g' ∧ Sim base w0 g' (H ++ [.cells es t]) w' ∧ R g' (.msl H.length 0 es.length) (.slice (some ⟨w.heap.size, 0, none⟩) es.length cp) := by
  have hle : g.le (g.phAdd H.length w.heap.size k cp) := Gh.phAdd_le S.fresh
  refine ⟨_, hle, S.alloc hg hx ((hF.mono hle).orel hs hl ht), ?_⟩
  have : R (g.phAdd H.length w.heap.size k cp) (.msl H.length 0 es.length) (.slice (some ⟨w.heap.size, 0 * (g.phAdd H.length w.heap.size k cp).ks H.length, none⟩) es.length cp) :=
    .msl (by simp [Gh.phAdd]) hl (by simp [Gh.phAdd]) hm
  simpa using this

/-- what is appended: elements, where they lie -/
structure Src (w : World) (g : Gh) (k : Nat) (xs : List (List AV)) (x : Value) : Prop where
  at_ : ∃ (ad : Addr) (c : Nat) (us : List Value), x = .slice (some ad) xs.length c ∧ FRel g k xs us ∧ ∀ j u, us[j]? = some u → w.cell? (ad.add j) = some u

theorem Src.rsl (S : Sim base w0 g H w) {xs : List (List AV)} {ex : Bool} {x : Value} {k : Nat} (h : R g (.rsl xs ex) x) (hk : 0 < k) (hlen : xs.all (fun e => e.length == k) = true) (h0 : 0 < xs.length) : Src w g k xs x := by
  obtain ⟨ad, cap, us, h1, _, _, _, h2, h3⟩ := rsl_flat S h hk hlen (by rintro a rfl; cases h <;> first | cases h0 | (rename_i hn _ _ _ _ _ _; omega))
  exact ⟨ad, cap, us, h1, h2, h3⟩

theorem Src.msl (S : Sim base w0 g H w) {b off len : Nat} {x : Value} {k : Nat} {es : List (List AV)} {t : TypeId} (h : R g (.msl b off len) x) (hb : H[b]? = some (.cells es t))
    (hfit : off + len ≤ es.length) (hlen : es.all (fun e => e.length == k) = true) (h0 : 0 < es.length) : Src w g k ((es.drop off).take len) x := by
  obtain ⟨y, cap, cur, h1, h2, h3, h4, h5, h6, h7, h8, h9⟩ := msl_flat S h hb hfit hlen h0
  refine ⟨⟨y, off * k, none⟩, cap, _, ?_, h9, fun j u hu => ?_⟩
  · rw [h1]; congr 1; simp; omega
  · rw [List.getElem?_take] at hu
    split at hu
    · rw [List.getElem?_drop] at hu
      rw [add_none, cell_of_cells h7]
      simpa using hu
    · cases hu

section append
variable {t ty e : TypeId} {inf : TypeInfo} {z : Value} {xs : List (List AV)} {x : Value}

theorem append_nil (S : Sim base w0 g H w) (ht : P.underlying t = some (.slice e)) (hi : P.info? e = some inf) (hz : inf.zero = some z) (hzs : z.cells.size = inf.size)
    (hx : Src w g inf.size xs x) (h0 : 0 < xs.length) (hm : xs.length ≤ maxLen) (hb : xs.length * inf.bytes ≤ 140737488355328) :
    ∃ v w' g', (Builtin.append_ #[t, t] ty #[.slice none 0 0, x]).run P w = .ok v w' ∧ g.le g' ∧ Sim base w0 g' (H ++ [.cells xs e]) w' ∧ R g' (.msl H.length 0 xs.length) v := by
  obtain ⟨ad, c, us, rfl, hF, hus⟩ := hx.at_
  have hr := run_append_nil (P := P) w t ty e inf z ht hi hz ad xs.length c us hF.size hus h0 (by simp only [maxLen] at hm; omega) (by omega)
  have hge := grownCap_ge w xs.length 0 e
  have hcm := grownCap_le_maxLen w xs.length 0 e hm
  have hown := own_new S (w' := w.drew.alloc (.cells (us.toArray ++ Builtin.zeroCells z.cells (grownCap w xs.length 0 e - xs.length)) e))
    (cur := us.toArray ++ Builtin.zeroCells z.cells (grownCap w xs.length 0 e - xs.length)) (t := e) (cp := grownCap w xs.length 0 e) hF ?_ hge ?_ hcm
    ⟨rfl, rfl, rfl, by simp, fun k hk _ => heap_alloc_old w.drew _ k hk⟩ (heap_alloc_new w.drew _)
  · obtain ⟨g', h1, h2, h3⟩ := hown
    exact ⟨_, _, g', hr, h1, h2, h3⟩
  · simp only [Array.size_append, List.size_toArray, size_zeroCells, hzs, hF.size, ← Nat.add_mul]
    congr 1
    omega
  · rw [← hF.size]
    simp

theorem append_exact (S : Sim base w0 g H w) (ht : P.underlying t = some (.slice e)) (hi : P.info? e = some inf) (hz : inf.zero = some z) (hzs : z.cells.size = inf.size) (hk : 0 < inf.size)
    {es : List (List AV)} {s : Value} (hs : R g (.rsl es true) s) (hlen : es.all (fun e => e.length == inf.size) = true)
    (hx : Src w g inf.size xs x) (h0 : 0 < xs.length) (hm : es.length + xs.length ≤ maxLen) (hb : (es.length + xs.length) * inf.bytes ≤ 140737488355328) :
    ∃ v w' g', (Builtin.append_ #[t, t] ty #[s, x]).run P w = .ok v w' ∧ g.le g' ∧ Sim base w0 g' (H ++ [.cells (es ++ xs) e]) w' ∧ R g' (.msl H.length 0 (es.length + xs.length)) v := by
  have hel : (es = [] ∧ ∃ a, s = .slice a 0 0) ∨ ∀ a, s ≠ .slice a 0 0 := by
    cases hs with
    | rnil a => exact .inl ⟨rfl, a, rfl⟩
    | rsl vs hn hl hc hm' hk' hf hr =>
      rcases es with _ | ⟨e0, es⟩
      · refine .inl ⟨rfl, ?_⟩
        rw [hn, hc rfl, hn]
        exact ⟨_, rfl⟩
      · refine .inr fun a h => ?_
        injection h with _ h2 _
        rw [h2] at hn
        simp at hn
  rcases hel with ⟨rfl, a, rfl⟩ | hne
  · cases a with
    | none => simpa using append_nil (ty := ty) S ht hi hz hzs hx h0 (by simpa using hm) (by simpa using hb)
    | some as =>
      obtain ⟨ad, c, us, rfl, hF, hus⟩ := hx.at_
      have hm0 : xs.length ≤ maxLen := by simpa using hm
      have hr := run_append_grow (P := P) w t ty e inf z ht hi hz as 0 0 [] (by simp) (by simp) ad xs.length c us hF.size hus (by omega) (by simp only [maxLen] at hm0; omega) (growslice_fits (by omega) (by simpa using hb))
      simp only [Nat.zero_add] at hr
      have hge := grownCap_ge w xs.length 0 e
      have hcm := grownCap_le_maxLen w xs.length 0 e hm0
      have hown := own_new S (w' := w.drew.alloc (.cells (#[] ++ us.toArray ++ Builtin.zeroCells z.cells (grownCap w xs.length 0 e - xs.length)) e))
        (cur := #[] ++ us.toArray ++ Builtin.zeroCells z.cells (grownCap w xs.length 0 e - xs.length)) (t := e) (cp := grownCap w xs.length 0 e) hF ?_ hge ?_ hcm
        ⟨rfl, rfl, rfl, by simp, fun k hk _ => heap_alloc_old w.drew _ k hk⟩ (heap_alloc_new w.drew _)
      · obtain ⟨g', h1, h2, h3⟩ := hown
        refine ⟨_, _, g', hr, h1, h2, ?_⟩
        simpa using h3
      · simp only [Array.size_append, List.size_toArray, size_zeroCells, hzs, hF.size, ← Nat.add_mul, List.size_toArray, List.length_nil, Nat.zero_add]
        congr 1
        omega
      · rw [← hF.size]
        simp
  obtain ⟨ad, c, us, rfl, hF, hus⟩ := hx.at_
  obtain ⟨as, cap, os, rfl, hcl, hce, hcm', hO, hos⟩ := rsl_flat S hs hk hlen hne
  have hce := hce rfl
  subst hce
  have hr := run_append_grow (P := P) w t ty e inf z ht hi hz as es.length es.length os hO.size hos ad xs.length c us hF.size hus (by omega) (by simp only [maxLen] at hm; omega) (growslice_fits (by omega) hb)
  have hge := grownCap_ge w (es.length + xs.length) es.length e
  have hcm := grownCap_le_maxLen w (es.length + xs.length) es.length e hm
  have hFO := hO.append hF
  have hown := own_new S (w' := w.drew.alloc (.cells (os.toArray ++ us.toArray ++ Builtin.zeroCells z.cells (grownCap w (es.length + xs.length) es.length e - (es.length + xs.length))) e))
    (cur := os.toArray ++ us.toArray ++ Builtin.zeroCells z.cells (grownCap w (es.length + xs.length) es.length e - (es.length + xs.length))) (t := e) (cp := grownCap w (es.length + xs.length) es.length e) hFO ?_ (by simpa using hge) ?_ hcm
    ⟨rfl, rfl, rfl, by simp, fun k hk _ => heap_alloc_old w.drew _ k hk⟩ (heap_alloc_new w.drew _)
  · obtain ⟨g', h1, h2, h3⟩ := hown
    simp only [List.length_append] at h3
    exact ⟨_, _, g', hr, h1, h2, h3⟩
  · simp only [Array.size_append, List.size_toArray, size_zeroCells, hzs, hF.size, hO.size, ← Nat.add_mul]
    congr 1
    omega
  · rw [← hFO.size]
    simp only [Array.toList_append, List.append_assoc]
    rw [← List.append_assoc, List.take_left]

/-- the row may lie in the same block under another number -/
theorem own_moved (S : Sim base w0 g H w) {b y : Nat} {ob : AObj} {es : List (List AV)} {us : List Value} {cur : Array Value} {t : TypeId} {k cp : Nat} (hb : H[b]? = some ob) (hn : ob ≠ .dead) (hy : g.ph b = some y)
    (hF : FRel g k es us) (hs : cur.size = cp * k) (hl : es.length ≤ cp) (ht : cur.toList.take (es.length * k) = us) (hm : cp ≤ maxLen) (hg : w.grownBy w' (some y)) (hx : w'.heap[y]? = some (.cells cur t (0, 0))) :
    ∃ g', g.le g' ∧ Sim base w0 g' (H.set b .dead ++ [.cells es t]) w' ∧ R g' (.msl H.length 0 es.length) (.slice (some ⟨y, 0, none⟩) es.length cp) := by
  have S' := S.turn (ob' := .dead) hb hn hy hg hx (.dead _)
  have hlen : (H.set b .dead).length = H.length := by simp
  have hle : g.le (g.phAdd H.length y k cp) := Gh.phAdd_le S.fresh
  refine ⟨_, hle, ?_, ?_⟩
  · have := S'.push (x := y) (k := k) (c := cp) (ob := .cells es t) (S.pos b y hy).1 (Nat.lt_of_lt_of_le (S.pos b y hy).2 hg.size) hx (S.sep b y ob hb hn hy).1 (S.sep b y ob hb hn hy).2
      (fun c oc hc hnc hyc => ?_) ?_
    · simpa [hlen] using this
    · rw [List.getElem?_set] at hc
      split at hc
      · split at hc
        · cases hc; exact hnc rfl
        · cases hc
      · rename_i hne
        exact hne (S.inj b c y ob oc hb hn hc hnc hy hyc)
    · rw [hlen]
      exact (hF.mono hle).orel hs hl ht
  · have : R (g.phAdd H.length y k cp) (.msl H.length 0 es.length) (.slice (some ⟨y, 0 * (g.phAdd H.length y k cp).ks H.length, none⟩) es.length cp) :=
      .msl (by simp [Gh.phAdd]) hl (by simp [Gh.phAdd]) hm
    simpa using this

theorem append_own (S : Sim base w0 g H w) (ht : P.underlying t = some (.slice e)) (hi : P.info? e = some inf) (hz : inf.zero = some z) (hzs : z.cells.size = inf.size) (hk : 0 < inf.size)
    {b len : Nat} {es : List (List AV)} {s : Value} (hs : R g (.msl b 0 len) s) (hb : H[b]? = some (.cells es e)) (hfit : len ≤ es.length) (h0 : 0 < es.length) (hlen : es.all (fun e => e.length == inf.size) = true)
    (hx : Src w g inf.size xs x) (hc : xs.all (fun e => e.all AV.isCell) = true) (hm : len + xs.length ≤ maxLen) (hbytes : (len + xs.length) * inf.bytes ≤ 140737488355328) :
    ∃ v w' g', (Builtin.append_ #[t, t] ty #[s, x]).run P w = .ok v w' ∧ g.le g' ∧ Sim base w0 g' (H.set b .dead ++ [.cells (es.take len ++ xs) e]) w' ∧ R g' (.msl H.length 0 (len + xs.length)) v := by
  obtain ⟨ad, c, us, rfl, hF, hus⟩ := hx.at_
  obtain ⟨y, cap, cur, rfl, hy, hks, hlc, hcc, hcm, hw, hcur, hO⟩ := msl_flat S hs hb (by omega) hlen h0
  simp only [Nat.zero_mul, List.drop_zero] at hO ⊢
  have hcp : g.cp b = cap := by omega
  rw [hcp] at hcur
  have hFO := hO.append hF
  have hlt : (es.take len ++ xs).length = len + xs.length := by simp; omega
  have h1 := hF.one hc hk
  by_cases hroom : len + xs.length ≤ cap
  · have e1 := Nat.mul_le_mul_right inf.size hroom
    have e2 := Nat.add_mul len xs.length inf.size
    have hr := run_append_room (P := P) w t ty e inf ht hi y len cap cur hw ad xs.length c us hF.size hus h1 hroom (by rw [hF.size]; omega)
    obtain ⟨g', h1, h2, h3⟩ := own_moved S hb (by simp) hy (w' := w.setRow y (cur.toList.take (len * inf.size) ++ us ++ cur.toList.drop (len * inf.size + us.length)).toArray) (t := e)
      (cur := (cur.toList.take (len * inf.size) ++ us ++ cur.toList.drop (len * inf.size + us.length)).toArray) (cp := cap) hFO
      (by simp only [List.size_toArray, List.length_append, List.length_take, List.length_drop, Array.length_toList, hF.size]; omega) (by rw [hlt]; exact hroom)
      (by rw [← hFO.size]; exact List.take_left) hcm ⟨rfl, rfl, rfl, by simp [World.setRow], fun k _ hk => setRow_other w y k _ (fun e => hk (by simp [e]))⟩ (setRow_heap w y cur _ e _ hw)
    rw [hlt] at h3
    exact ⟨_, _, g', hr, h1, h2, h3⟩
  · have hr := run_append_grow (P := P) w t ty e inf z ht hi hz ⟨y, 0, none⟩ len cap (cur.toList.take (len * inf.size))
      (by rw [hO.size, List.length_take, Nat.min_eq_left hfit]) (fun j u hu => by
        rw [List.getElem?_take] at hu
        split at hu
        · rw [add_none, Nat.zero_add, cell_of_cells hw]; simpa using hu
        · cases hu) ad xs.length c us hF.size hus (by omega) (by simp only [maxLen] at hm; omega) (growslice_fits (by omega) hbytes)
    have hge := grownCap_ge w (len + xs.length) cap e
    have hcm' := grownCap_le_maxLen w (len + xs.length) cap e hm
    have S' := S.dead b
    have hown := own_new S' (w' := w.drew.alloc (.cells ((cur.toList.take (len * inf.size)).toArray ++ us.toArray ++ Builtin.zeroCells z.cells (grownCap w (len + xs.length) cap e - (len + xs.length))) e))
      (cur := (cur.toList.take (len * inf.size)).toArray ++ us.toArray ++ Builtin.zeroCells z.cells (grownCap w (len + xs.length) cap e - (len + xs.length))) (t := e) (cp := grownCap w (len + xs.length) cap e) hFO ?_ (by rw [hlt]; exact hge) ?_ hcm'
      ⟨rfl, rfl, rfl, by simp, fun k hk _ => heap_alloc_old w.drew _ k hk⟩ (heap_alloc_new w.drew _)
    · obtain ⟨g', h1, h2, h3⟩ := hown
      rw [hlt] at h3
      simp only [List.length_set] at h3
      exact ⟨_, _, g', hr, h1, h2, h3⟩
    · have := hO.size
      simp only [List.length_take] at this
      rw [show min len es.length = len by omega] at this
      simp only [Array.size_append, List.size_toArray, List.length_take, size_zeroCells, hzs, hF.size, this, ← Nat.add_mul]
      congr 1
      omega
    · rw [← hFO.size]
      simp only [Array.toList_append, List.append_assoc]
      rw [← List.append_assoc, List.take_left]

end append

end Go.Proofs.Ytphfdbmbdaninaa.Ab
