/- From a law's contract to its row: what the arguments of a call are as abstract values. What the arguments of a call are, told cell by cell. -/
import Derived.Test.YtdmgljlabigljaaKB
import Derived.OpenShut
import Derived.ChangeOld
import Derived.SizedLaws
namespace Go.Proofs.Ytdmgljlabigljaa.Ab
open Go Go.RowKit Go.ChangeShapes Go.WideShapes

/-- the cells of a type -/
inductive Sh where
  | bool
  | int (k : IntKind)
  | str
  | sl (bytes : Nat) (e : List Sh)

inductive Fits : List Sh → List AV → Prop
  | nil : Fits [] []
  | bool {b : Bool} {s : List Sh} {as : List AV} (h : Fits s as) : Fits (.bool :: s) (.val (.bool b) :: as)
  | int {k : IntKind} {n : Int} {s : List Sh} {as : List AV} (hn : (Lit.int k n).wf = true) (h : Fits s as) : Fits (.int k :: s) (.val (.int k n) :: as)
  | str {x : ByteArray} {s : List Sh} {as : List AV} (hx : x.size ≤ reachBytes) (h : Fits s as) : Fits (.str :: s) (.val (.string x) :: as)
  | sl {b : Nat} {e s : List Sh} {es : List (List AV)} {ex : Bool} {as : List AV} (he : ∀ x ∈ es, Fits e x) (hb : es.length * b ≤ reachBytes) (hm : es.length ≤ maxLen) (h : Fits s as) : Fits (.sl b e :: s) (.rsl es ex :: as)

theorem Fits.length {s : List Sh} {as : List AV} (h : Fits s as) : as.length = s.length := by
  induction h <;> simp_all

theorem Fits.append {s t : List Sh} {as bs : List AV} (h : Fits s as) (k : Fits t bs) : Fits (s ++ t) (as ++ bs) := by
  induction h with
  | nil => exact k
  | bool _ ih => exact .bool ih
  | int hn _ ih => exact .int hn ih
  | str hx _ ih => exact .str hx ih
  | sl he hb hm _ _ ih => exact .sl he hb hm ih

def fieldsS (sh : TypeId → Option (List Sh)) (P : Program) : Nat → List Field → Option (List Sh)
  | _, [] => some []
  | off, f :: r => if f.offset = off then match sh f.type with
    | some s => if s.length = P.cellsOf f.type then (fieldsS sh P (off + s.length) r).map (s ++ ·) else none
    | none => none
    else none

def shape (P : Program) : Nat → TypeId → Option (List Sh)
  | 0, _ => none
  | n + 1, t => match P.underlying t with
    | some .bool => some [.bool]
    | some (.int k) => some [.int k]
    | some .string => some [.str]
    | some (.slice e) => match shape P n e with
      | some s => if s.length = P.cellsOf e ∧ 0 < P.cellsOf e then some [.sl (P.bytesOf e) s] else none
      | none => none
    | some (.struct fs) => match fieldsS (shape P n) P 0 fs.toList with
      | some s => if s.length = P.cellsOf t then some s else none
      | none => none
    | some (.array m e) => match shape P n e with
      | some s => if s.length = P.cellsOf e ∧ m * P.cellsOf e = P.cellsOf t then some (List.replicate m s).flatten else none
      | none => none
    | _ => none

variable {H : Type} {enc : TypeId × Value → H} {P : Program} {W : World}

/-- the cells as abstract ones -/
def Told (g : Gh) (as : List AV) (cs : List Value) : Prop := as.length = cs.length ∧ ∀ (i : Nat) (c : AV) (v : Value), as[i]? = some c → cs[i]? = some v → R g c v

theorem Told.one {g : Gh} {a : AV} {v : Value} (h : R g a v) : Told g [a] [v] :=
  ⟨rfl, fun i c u hc hu => by
    cases i with
    | zero => simp at hc hu; subst hc; subst hu; exact h
    | succ i => simp at hc⟩

theorem Told.append {g : Gh} {as bs : List AV} {cs ds : List Value} (h : Told g as cs) (k : Told g bs ds) : Told g (as ++ bs) (cs ++ ds) := by
  refine ⟨by simp [h.1, k.1], fun i c v hc hv => ?_⟩
  rw [List.getElem?_append] at hc hv
  rw [← h.1] at hv
  split at hc
  · rename_i hi
    rw [if_pos hi] at hv
    exact h.2 i c v hc hv
  · rename_i hi
    rw [if_neg hi] at hv
    exact k.2 _ c v hc hv

theorem all_append {l m : List Nat} {p : Nat → Bool} (h : (l ++ m).all p = true) : l.all p = true ∧ m.all p = true := by
  rw [List.all_append, Bool.and_eq_true] at h; exact h

theorem weightsAll_get : ∀ (l : List (DataW H)) (e : TypeId), (DataW.weightsAll P e l).all (· ≤ reachBytes) = true → ∀ d ∈ l, (d.weights P e).all (· ≤ reachBytes) = true
  | [], _, _, d, hd => by cases hd
  | x :: r, e, h, d, hd => by
    rw [DataW.weightsAll] at h
    obtain ⟨h1, h2⟩ := all_append h
    rcases List.mem_cons.1 hd with rfl | hd
    · exact h1
    · exact weightsAll_get r e h2 d hd

theorem exists_list {α : Type} {q : Nat → α → Prop} : ∀ (n : Nat), (∀ i, i < n → ∃ a, q i a) → ∃ l : List α, l.length = n ∧ ∀ i a, l[i]? = some a → q i a
  | 0, _ => ⟨[], rfl, fun i a h => by simp at h⟩
  | n + 1, h => by
    obtain ⟨l, hl, hq⟩ := exists_list n fun i hi => h i (by omega)
    obtain ⟨a, ha⟩ := h n (by omega)
    refine ⟨l ++ [a], by simp [hl], fun i x hx => ?_⟩
    rw [List.getElem?_append] at hx
    split at hx
    · exact hq i x hx
    · rename_i hi
      have e : i - l.length = 0 := by
        rcases Nat.eq_zero_or_pos (i - l.length) with h | h
        · exact h
        · rw [List.getElem?_eq_none (by simp; omega)] at hx; cases hx
      rw [e] at hx
      simp at hx
      subst hx
      have : i = n := by omega
      subst this
      exact ha

theorem cells_get {a : Addr} {n : Nat} {cs : List Value} (h : W.cells? 0 a n = some cs) : cs.length = n ∧ ∀ j, j < n → W.cell? (a.add j) = cs[j]? := by
  unfold World.cells? at h
  rw [if_pos (Nat.zero_le _)] at h
  exact ⟨by simpa using mapM_some_length h, fun j hj => mapM_some_get h j j (by simp [hj])⟩

theorem cell_none {a : Addr} {v : Value} (h : W.cell? a = some v) : a.spot = none := by
  unfold World.cell? at h
  split at h
  · split at h
    · cases h
    · rename_i hs; cases hh : a.spot with
      | none => rfl
      | some x => rw [hh] at hs; exact absurd rfl hs
  · cases h

/-- a value is read: in a world all of whose cells never turn any more -/
theorem read {g : Gh} (hg : ∀ b o v, W.cell? ⟨b, o, none⟩ = some v → g.fz b o = some v) :
    ∀ (n fuel : Nat) (t : TypeId) (cs : List Value) (d : DataW H) (ps : List MemPlace) (sh : List Sh), DataW.trod enc P W 0 (fun _ => true) true fuel t cs = some (d, ps) → shape P n t = some sh →
      (d.weights P t).all (· ≤ reachBytes) = true → ∃ as, Fits sh as ∧ Told g as cs := by
  intro n
  induction n with
  | zero => intro fuel t cs d ps sh _ h; cases h
  | succ n ih =>
    intro fuel t cs d ps sh hd hs hw
    unfold shape at hs
    split at hs
    · rename_i hu
      cases hs
      obtain ⟨b, rfl, _⟩ := DataW.trod_bool hu hd
      exact ⟨[.val (.bool b)], .bool .nil, .one (.val _)⟩
    · rename_i k hu
      cases hs
      obtain ⟨m, rfl, _, hn⟩ := DataW.trod_int hu hd
      exact ⟨[.val (.int k m)], .int hn .nil, .one (.val _)⟩
    · rename_i hu
      cases hs
      obtain ⟨x, rfl, hx, hm⟩ := DataW.trod_string hu hd
      simp only [Prod.mk.injEq] at hx
      obtain ⟨rfl, _⟩ := hx
      have : x.size ≤ reachBytes := by simpa [DataW.weights] using hw
      exact ⟨[.val (.string x)], .str this .nil, .one (.val _)⟩
    · rename_i e hu
      split at hs
      · rename_i s hse
        split at hs
        · rename_i hif
          obtain ⟨hk, hpos⟩ := hif
          cases hs
          rcases DataW.trod_slice hu hd with ⟨rfl, _⟩ | ⟨a, len, cap, elems, rest, m, _, rfl, hx, _, hl, hm, hlen, hel, hsp, _⟩
          · exact ⟨[.rsl [] true], .sl (by simp) (by simp) (by simp) .nil, .one (.rnil none)⟩
          · simp only [Prod.mk.injEq] at hx
            obtain ⟨rfl, _⟩ := hx
            obtain ⟨hrl, hrest⟩ := hsp rfl
            simp only [DataW.weights, hu, List.all_cons, Bool.and_eq_true, decide_eq_true_eq, List.length_map] at hw
            obtain ⟨hwl, hww⟩ := hw
            obtain ⟨hwe, _⟩ := all_append hww
            rcases Nat.eq_zero_or_pos cap with h0 | h0
            · have : len = 0 := by omega
              subst h0; subst this
              exact ⟨[.rsl [] true], .sl (by simp) (by simp) (by simp) .nil, .one (.rnil _)⟩
            -- the address has no spot
            obtain ⟨b, o, hab⟩ : ∃ b o, a = ⟨b, o, none⟩ := by
              have h1 : ∃ y, W.cells? 0 (a.add (0 * P.cellsOf e)) (P.cellsOf e) = some y := by
                rcases Nat.eq_zero_or_pos len with hl0 | hl0
                · have := hrest 0 (by omega)
                  rw [hl0, Nat.add_zero] at this
                  have h2 : 0 < rest.length := by omega
                  rw [List.getElem?_eq_getElem h2, Option.bind_eq_some_iff] at this
                  obtain ⟨y, hy, _⟩ := this
                  exact ⟨y, hy⟩
                · have := hel 0 hl0
                  have h2 : 0 < elems.length := by omega
                  rw [List.getElem?_eq_getElem h2, Option.bind_eq_some_iff] at this
                  obtain ⟨y, hy, _⟩ := this
                  exact ⟨y, hy⟩
              obtain ⟨y, hy⟩ := h1
              obtain ⟨hy1, hy2⟩ := cells_get hy
              have := hy2 0 hpos
              have h3 : 0 < y.length := by omega
              rw [List.getElem?_eq_getElem h3] at this
              have := cell_none this
              obtain ⟨b, o, sp⟩ := a
              simp [Addr.add] at this
              subst this
              exact ⟨b, o, rfl⟩
            subst hab
            have each : ∀ i, i < len → ∃ p : List AV × List Value, Fits s p.1 ∧ Told g p.1 p.2 ∧ p.2.length = P.cellsOf e ∧ ∀ j, j < P.cellsOf e → W.cell? ⟨b, o + i * P.cellsOf e + j, none⟩ = p.2[j]? := by
              intro i hi
              have := hel i hi
              have h2 : i < elems.length := by omega
              rw [List.getElem?_eq_getElem h2, Option.bind_eq_some_iff] at this
              obtain ⟨y, hy, hy'⟩ := this
              have hmem : elems[i].1 ∈ elems.map (·.1) := List.mem_map_of_mem (List.getElem_mem h2)
              obtain ⟨as, h3, h4⟩ := ih m e y elems[i].1 elems[i].2 s (by rw [hy']) hse (weightsAll_get _ e hwe _ hmem)
              obtain ⟨hy1, hy2⟩ := cells_get hy
              refine ⟨(as, y), h3, h4, hy1, fun j hj => ?_⟩
              have := hy2 j hj
              rw [add_none, add_none] at this
              exact this
            obtain ⟨l, hll, hlq⟩ := exists_list len each
            have hfits : ∀ x ∈ l.map (·.1), Fits s x := by
              intro x hx
              obtain ⟨p, hp, rfl⟩ := List.mem_map.1 hx
              obtain ⟨i, hi⟩ := List.getElem?_of_mem hp
              exact (hlq i p hi).1
            refine ⟨[.rsl (l.map (·.1)) (cap == len)], .sl hfits ?_ ?_ .nil, .one ?_⟩
            · simp only [List.length_map, hll]
              refine Nat.le_trans (Nat.mul_le_mul_right _ ?_) hwl
              omega
            · simp only [List.length_map, hll]; omega
            · refine R.rsl (k := P.cellsOf e) (fun i j => ((l[i]?).bind fun p => p.2[j]?).getD undef) (by simp [hll]) hl (by simp) hm (fun i x hx => ?_) (fun i j hi hj => ?_) (fun i x j c hx hc => ?_)
              · have := (hfits x (List.mem_of_getElem? hx)).length
                rw [this, hk]
              · simp only [List.length_map] at hi
                have hp : l[i]? = some l[i] := List.getElem?_eq_getElem hi
                obtain ⟨_, _, q1, q2⟩ := hlq i _ hp
                refine hg _ _ _ ?_
                rw [q2 j hj, hp, Option.bind_some, List.getElem?_eq_getElem (by omega), Option.getD_some]
              · rw [List.getElem?_map, Option.map_eq_some_iff] at hx
                obtain ⟨p, hp, rfl⟩ := hx
                obtain ⟨_, q0, q1, q2⟩ := hlq i _ hp
                have hj : j < p.2.length := by rw [← q0.1]; exact (List.getElem?_eq_some_iff.1 hc).1
                rw [hp, Option.bind_some, List.getElem?_eq_getElem hj, Option.getD_some]
                exact q0.2 j c _ hc (List.getElem?_eq_getElem hj)
        · cases hs
      · cases hs
    · rename_i fs hu
      split at hs
      · rename_i s hsf
        split at hs
        · rename_i hlen
          cases hs
          obtain ⟨xs, m, _, hx, hcl, hxl, hxs⟩ := DataW.trod_struct hu hd
          simp only [Prod.mk.injEq] at hx
          obtain ⟨rfl, _⟩ := hx
          simp only [DataW.weights, hu] at hw
          have key : ∀ (l : List Field) (off i : Nat) (sh' : List Sh), fs.toList.drop i = l → fieldsS (shape P n) P off l = some sh' →
              (DataW.weightsEach P (l.map (·.type)) ((xs.drop i).map (·.1))).all (· ≤ reachBytes) = true → ∃ as, Fits sh' as ∧ Told g as ((cs.drop off).take sh'.length) := by
            intro l
            induction l with
            | nil =>
              intro off i sh' _ h _
              cases h
              exact ⟨[], .nil, by simp [Told]⟩
            | cons f r ihl =>
              intro off i sh' hdr h hwt
              unfold fieldsS at h
              split at h
              · rename_i hoff
                split at h
                · rename_i s hs1
                  split at h
                  · rename_i hsl
                    obtain ⟨s2, hs2, rfl⟩ := Option.map_eq_some_iff.1 h
                    have hfi : fs[i]? = some f := by
                      have : (fs.toList.drop i)[0]? = some f := by rw [hdr]; rfl
                      rw [List.getElem?_drop] at this
                      simpa using this
                    have hxi := hxs i f hfi
                    have hi : i < xs.length := by
                      rw [hxl]
                      exact (Array.getElem?_eq_some_iff.1 hfi).1
                    rw [List.getElem?_eq_getElem hi] at hxi
                    have hdrop : xs.drop i = xs[i] :: xs.drop (i + 1) := List.drop_eq_getElem_cons hi
                    rw [hdrop, List.map_cons, List.map_cons, DataW.weightsEach] at hwt
                    obtain ⟨w1, w2⟩ := all_append hwt
                    subst hoff
                    obtain ⟨as, a1, a2⟩ := ih m f.type _ xs[i].1 xs[i].2 s (by rw [hxi]) hs1 w1
                    obtain ⟨bs, b1, b2⟩ := ihl (f.offset + s.length) (i + 1) s2 (by rw [← List.drop_drop, hdr]; rfl) hs2 w2
                    refine ⟨as ++ bs, a1.append b1, ?_⟩
                    rw [← hsl] at a2
                    have : (cs.drop f.offset).take (s ++ s2).length = (cs.drop f.offset).take s.length ++ (cs.drop (f.offset + s.length)).take s2.length := by
                      rw [List.length_append, List.take_add, List.drop_drop]
                    rw [this]
                    exact a2.append b2
                  · cases h
                · cases h
              · cases h
          obtain ⟨as, a1, a2⟩ := key fs.toList 0 0 sh rfl hsf (by simpa using hw)
          refine ⟨as, a1, ?_⟩
          rw [hlen, ← hcl] at a2
          simpa using a2
        · cases hs
      · cases hs
    · rename_i k e hu
      split at hs
      · rename_i s hse
        split at hs
        · rename_i hif
          obtain ⟨hk, hck⟩ := hif
          cases hs
          obtain ⟨xs, m, _, hx, hcl, hxl, hxs⟩ := DataW.trod_array hu hd
          simp only [Prod.mk.injEq] at hx
          obtain ⟨rfl, _⟩ := hx
          simp only [DataW.weights, hu] at hw
          have key : ∀ (c i : Nat), i + c = k → ∃ as, Fits (List.replicate c s).flatten as ∧ Told g as ((cs.drop (i * P.cellsOf e)).take (c * P.cellsOf e)) := by
            intro c
            induction c with
            | zero => intro i _; exact ⟨[], .nil, by simp [Told]⟩
            | succ c ihc =>
              intro i hi
              have hxi := hxs i (by omega)
              have hi' : i < xs.length := by omega
              rw [List.getElem?_eq_getElem hi'] at hxi
              have hmem : xs[i].1 ∈ xs.map (·.1) := List.mem_map_of_mem (List.getElem_mem hi')
              obtain ⟨as, a1, a2⟩ := ih m e _ xs[i].1 xs[i].2 s (by rw [hxi]) hse (weightsAll_get _ e hw _ hmem)
              obtain ⟨bs, b1, b2⟩ := ihc (i + 1) (by omega)
              refine ⟨as ++ bs, by rw [List.replicate_succ, List.flatten_cons]; exact a1.append b1, ?_⟩
              have : (cs.drop (i * P.cellsOf e)).take ((c + 1) * P.cellsOf e) = (cs.drop (i * P.cellsOf e)).take (P.cellsOf e) ++ (cs.drop ((i + 1) * P.cellsOf e)).take (c * P.cellsOf e) := by
                rw [Nat.add_mul c, Nat.one_mul, Nat.add_comm, List.take_add, List.drop_drop, Nat.add_mul i, Nat.one_mul]
              rw [this]
              exact a2.append b2
          obtain ⟨as, a1, a2⟩ := key k 0 (by omega)
          refine ⟨as, a1, ?_⟩
          rw [hck, ← hcl] at a2
          simpa using a2
        · cases hs
      · cases hs
    · cases hs

/-! ### the arguments of a call -/

def isRow (P : Program) (t : TypeId) : Bool :=
  match P.underlying t with
  | some (.struct _) | some (.array _ _) => true
  | _ => false

def sig (P : Program) : List TypeId → Option (List (Bool × List Sh))
  | [] => some []
  | t :: ts => match shape P 20 t with
    | some s => if isRow P t = true ∨ s.length = 1 then (sig P ts).map ((isRow P t, s) :: ·) else none
    | none => none

def ArgsFit : List (Bool × List Sh) → List AV → Prop
  | [], [] => True
  | (true, s) :: r, .agg as :: l => Fits s as ∧ ArgsFit r l
  | (false, s) :: r, a :: l => Fits s [a] ∧ ArgsFit r l
  | _, _ => False

def LTold (g : Gh) (as : List AV) (vs : List Value) : Prop := as.length = vs.length ∧ ∀ (i : Nat) (c : AV) (v : Value), as[i]? = some c → vs[i]? = some v → R g c v

theorem readAll {g : Gh} (hg : ∀ b o v, W.cell? ⟨b, o, none⟩ = some v → g.fz b o = some v) {base : Nat} : ∀ (ts : List TypeId) (vs : List Value) (ds : List (DataW H)) (ps : List MemPlace) (sh : List (Bool × List Sh)),
    DataW.TrodAll enc P W 0 (fun _ => true) true ts vs ds ps → (∀ (j : Nat) t v, ts[j]? = some t → vs[j]? = some v → Value.okWide P W .any base t v) → sig P ts = some sh →
    (DataW.weightsEach P ts ds).all (· ≤ reachBytes) = true → ∃ as, ArgsFit sh as ∧ LTold g as vs
  | [], vs, ds, ps, sh, h, _, hs, _ => by
    obtain ⟨rfl, rfl, rfl⟩ := trodAll_nil h
    cases hs
    exact ⟨[], trivial, rfl, fun i c v hc => by simp at hc⟩
  | t :: ts, vs, ds, ps, sh, h, hok, hs, hw => by
    obtain ⟨v, vs', d, ds', p, q, rfl, rfl, rfl, ⟨fuel, hd⟩, hrest⟩ := trodAll_cons h
    unfold sig at hs
    split at hs
    · rename_i s hse
      split at hs
      · rename_i hif
        obtain ⟨sh', hs', rfl⟩ := Option.map_eq_some_iff.1 hs
        rw [DataW.weightsEach] at hw
        obtain ⟨w1, w2⟩ := all_append hw
        obtain ⟨as, h1, h2⟩ := readAll hg ts vs' ds' q sh' hrest (fun j t v ht hv => hok (j + 1) t v (by simpa using ht) (by simpa using hv)) hs' w2
        obtain ⟨bs, b1, b2⟩ := read hg 20 fuel t _ d p s hd hse w1
        have hokv := hok 0 t v rfl rfl
        have cons : ∀ a, R g a v → LTold g (a :: as) (v :: vs') := fun a ha => ⟨by simp [h2.1], fun i c u hc hu => by
          cases i with
          | zero => simp at hc hu; subst hc; subst hu; exact ha
          | succ i => exact h2.2 i c u (by simpa using hc) (by simpa using hu)⟩
        cases hr : isRow P t with
        | true =>
          have hagg : ∃ cs, v = .agg cs := by
            unfold isRow at hr
            unfold Value.okWide at hokv
            split at hr
            · rename_i hu; rw [hu] at hokv; obtain ⟨cs, rfl, _⟩ := hokv; exact ⟨cs, rfl⟩
            · rename_i hu; rw [hu] at hokv; obtain ⟨cs, rfl, _⟩ := hokv; exact ⟨cs, rfl⟩
            · cases hr
          obtain ⟨cs, rfl⟩ := hagg
          have b2' : Told g bs cs.toList := by simpa [Value.cells] using b2
          refine ⟨.agg bs :: as, ⟨b1, h1⟩, cons _ (.agg (by simpa using b2'.1) fun i c u hc hu => b2'.2 i c u hc (by simpa using hu))⟩
        | false =>
          have hl1 : s.length = 1 := by rw [hr] at hif; simpa using hif
          have hb1 := b1.length
          rw [hl1] at hb1
          match bs, hb1 with
          | [a], _ =>
            have hcv : v.cells.toList.length = 1 := by rw [← b2.1]; rfl
            refine ⟨a :: as, ⟨b1, h1⟩, cons a ?_⟩
            have hnagg : v.cells = #[v] := by
              cases v with
              | agg cs =>
                exfalso
                have h0 : Value.okWide P W .any base t (.agg cs) := hok 0 t _ rfl rfl
                unfold isRow at hr
                unfold Value.okWide Cell.okWide Cell.ok at h0
                cases hu : P.underlying t with
                | none => simp [hu] at h0
                | some d => cases d <;> simp [hu] at h0 hr
              | _ => rfl
            refine b2.2 0 a v rfl ?_
            rw [hnagg]; rfl
      · cases hs
    · cases hs

def memGh (W : World) : Gh := { fz := fun b o => W.cell? ⟨b, o, none⟩, ph := fun _ => none, ks := fun _ => 0, cp := fun _ => 0, mr := fun _ => False }

theorem Sim.start (W : World) : Sim W.heap.size W (memGh W) [] W where
  below := .refl _ _
  low := Nat.le_refl _
  fz := fun _ _ _ h => h
  dom := fun _ _ h => by cases h
  pos := fun _ _ h => by cases h
  sep := fun b x ob h => by simp at h
  inj := fun b c x ob oc h => by simp at h
  obj := fun b ob h => by simp at h
  marks := fun r h => False.elim h

theorem trodAll_kept {W' : World} (hl : laidOutB P = true) (hb : Below W.heap.size W W') : ∀ (ts : List TypeId) (vs : List Value) (ds : List (DataW H)) (ps : List MemPlace), (∀ t ∈ ts, P.readableRec t = true ∧ t < P.types.size) →
    DataW.TrodAll enc P W 0 (fun _ => true) true ts vs ds ps → DataW.TrodAll enc P W' 0 (fun b => decide (b < W.heap.size)) true ts vs ds ps
  | [], vs, ds, ps, _, h => by
    obtain ⟨rfl, rfl, rfl⟩ := trodAll_nil h
    exact trodAll_mk0
  | t :: ts, vs, ds, ps, ht, h => by
    obtain ⟨v, vs', d, ds', p, q, rfl, rfl, rfl, hd, hrest⟩ := trodAll_cons h
    have hlt : ∀ x ∈ p, x.block < W.heap.size := by obtain ⟨m, hm⟩ := hd; exact DataW.trod_lt m _ _ _ hm
    exact ⟨p, q, Below.trod hl (ht t (by simp)).1 (ht t (by simp)).2 hd hb hlt, trodAll_kept hl hb ts vs' ds' q (fun t' h' => ht t' (by simp [h'])) hrest, rfl⟩

theorem length_trodAll : ∀ (ts : List TypeId) (vs : List Value) (ds : List (DataW H)) (ps : List MemPlace), DataW.TrodAll enc P W 0 (fun _ => true) true ts vs ds ps → ds.length = ts.length
  | [], vs, ds, ps, h => by obtain ⟨rfl, rfl, rfl⟩ := trodAll_nil h; rfl
  | t :: ts, vs, ds, ps, h => by
    obtain ⟨v, vs', d, ds', p, q, rfl, rfl, rfl, hd, hrest⟩ := trodAll_cons h
    simp [length_trodAll ts vs' ds' q hrest]

/-- the row of a law, out of its contract -/
theorem contract_of {f : FuncId} {fn : Func} {s : ChangeSpec} (hl : laidOutB P = true) (hp : fn.params.toList.all (fun t => P.readableRec t && decide (t < P.types.size)) = true) {sh : List (Bool × List Sh)} (hsig : sig P fn.params.toList = some sh)
    {rt : TypeId} (hres : fn.resultTypes = #[rt]) (hu : P.underlying rt = some .bool) (hvars : s.vars = []) (hspec : ∀ ds : List (DataW H), ds.length = fn.params.size → s.fn H ds = { results := [.lit (.bool true)], args := ds })
    (h : ∀ as, ArgsFit sh as → ACalls P f as [] fun v _ => v = .val (.bool true)) {W : World} {base : Nat} {args : Array Value} {ds gs : List (DataW H)} {before : List MemPlace}
    (hval : ∀ (j : Nat) t v, fn.params[j]? = some t → args[j]? = some v → Value.okWide P W .any base t v) (hW : DataW.Whole enc P fn.params.toList s.vars false W args.toList ds gs before)
    (hsz : (DataW.weightsEach P (fn.params.toList ++ s.plain.varTypes P) (ds ++ gs)).all (· ≤ reachBytes) = true) :
    Calls P f args W fun e W' => ∃ v, e = .returned v ∧ s.post enc P fn false true false false W args v W' := by
  have hW' := hW
  obtain ⟨p, q, hA, hV, rfl, hfz, hnd⟩ := hW
  rw [hvars] at hV
  obtain ⟨rfl, rfl⟩ := trodVars_none hV
  have hlen := length_trodAll _ _ _ _ hA
  have hsz' : (DataW.weightsEach P fn.params.toList ds).all (· ≤ reachBytes) = true := by
    have : ∀ (ts us : List TypeId) (ds : List (DataW H)), ds.length = ts.length → DataW.weightsEach P (ts ++ us) (ds ++ []) = DataW.weightsEach P ts ds := by
      intro ts
      induction ts with
      | nil => intro us ds hd; cases ds with
        | nil => cases us <;> simp [DataW.weightsEach]
        | cons d r => cases hd
      | cons t ts ih => intro us ds hd; cases ds with
        | nil => cases hd
        | cons d r => simp only [List.cons_append, DataW.weightsEach]; rw [ih us r (by simpa using hd)]
    rwa [this _ _ _ hlen] at hsz
  have hpp : ∀ t ∈ fn.params.toList, P.readableRec t = true ∧ t < P.types.size := by
    intro t ht
    have := List.all_eq_true.1 hp t ht
    simpa using this
  obtain ⟨as, h1, h2⟩ := readAll (g := memGh W) (fun _ _ _ h => h) (base := base) _ _ _ _ _ hA (fun j t v ht hv => hval j t v (by simpa using ht) (by simpa using hv)) hsig hsz'
  have hcall := (h as h1).2 W.heap.size W (memGh W) W args (Sim.start W) ⟨by simpa using h2.1, fun i c v hc hv => h2.2 i c v hc (by simpa using hv)⟩
  refine (callsIn_wide.1 hcall).mono fun e W' ⟨v, a, H', g', he, ha, _, S, hR⟩ => ?_
  subst he; subst ha
  cases hR
  refine ⟨_, rfl, ds, [], p ++ [], [], p, [], hW', ?_, ?_, ?_, S.below.frame _, fun h => by cases h⟩
  · rw [List.append_nil, hspec ds (by simpa using hlen), hres]
    exact trodAll_mk1 (shut_bool hu _)
  · rw [List.append_nil, hspec ds (by simpa using hlen)]
    exact trodAll_kept hl S.below _ _ _ _ hpp hA
  · rw [List.append_nil, hspec ds (by simpa using hlen), hvars]
    rfl

end Go.Proofs.Ytdmgljlabigljaa.Ab

namespace Go.Proofs.Ytdmgljlabigljaa.Ab
open Go Go.RowKit

abbrev I : Sh := .int .i64

theorem fitK {k : IntKind} {s : List Sh} {as : List AV} (h : Fits (.int k :: s) as) : ∃ n bs, as = .val (.int k n) :: bs ∧ (Lit.int k n).wf = true ∧ Fits s bs := by
  cases h; exact ⟨_, _, rfl, by assumption, by assumption⟩
theorem fit0 {as : List AV} (h : Fits [] as) : as = [] := by cases h; rfl
theorem fitL {b : Nat} {e s : List Sh} {as : List AV} (h : Fits (.sl b e :: s) as) : ∃ es ex bs, as = .rsl es ex :: bs ∧ (∀ x ∈ es, Fits e x) ∧ es.length * b ≤ reachBytes ∧ es.length ≤ maxLen ∧ Fits s bs := by
  cases h; exact ⟨_, _, _, rfl, by assumption, by assumption, by assumption, by assumption⟩

/-- each row of a list is that of something -/
theorem fitMap {α : Type} {e : List Sh} (f : α → List AV) (hf : ∀ x, Fits e x → ∃ a, x = f a) : ∀ es : List (List AV), (∀ x ∈ es, Fits e x) → ∃ l : List α, es = l.map f
  | [], _ => ⟨[], rfl⟩
  | x :: es, h => by
    obtain ⟨a, rfl⟩ := hf x (h _ (by simp))
    obtain ⟨l, rfl⟩ := fitMap f hf es fun y hy => h y (by simp [hy])
    exact ⟨a :: l, rfl⟩

theorem argT {s : List Sh} {r : List (Bool × List Sh)} {as : List AV} (h : ArgsFit ((true, s) :: r) as) : ∃ bs l, as = .agg bs :: l ∧ Fits s bs ∧ ArgsFit r l := by
  match as, h with
  | .agg bs :: l, h => exact ⟨bs, l, rfl, h⟩
theorem argF {s : List Sh} {r : List (Bool × List Sh)} {as : List AV} (h : ArgsFit ((false, s) :: r) as) : ∃ a l, as = a :: l ∧ Fits s [a] ∧ ArgsFit r l := by
  match as, h with
  | a :: l, h => exact ⟨a, l, rfl, h⟩
theorem arg0 {as : List AV} (h : ArgsFit [] as) : as = [] := by
  match as, h with
  | [], _ => rfl

end Go.Proofs.Ytdmgljlabigljaa.Ab
