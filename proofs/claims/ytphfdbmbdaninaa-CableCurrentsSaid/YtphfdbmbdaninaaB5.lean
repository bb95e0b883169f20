/- Regions that draw their order of evaluation: the theorem, and its rule for code. -/
import Derived.Test.YtphfdbmbdaninaaB4
namespace Go.Proofs.Ytphfdbmbdaninaa.Ab
open Go Go.RowKit

variable {base : Nat} {w0 w w' : World} {g : Gh} {H : Hp} {P : Program}

theorem nodup_le : ∀ (N : Nat) (S : List Nat), S.Nodup → (∀ k ∈ S, k < N) → S.length ≤ N
  | 0, S, _, h => by
    cases S with
    | nil => exact Nat.le_refl _
    | cons a l => exact absurd (h a (by simp)) (Nat.not_lt_zero _)
  | N + 1, S, hS, h => by
    by_cases hN : N ∈ S
    · have := nodup_le N (S.erase N) (hS.erase N) (fun k hk => by
        have h1 := h k (List.mem_of_mem_erase hk)
        have h2 : k ≠ N := fun e => by subst e; exact (List.Nodup.not_mem_erase hS) hk
        omega)
      rw [List.length_erase_of_mem hN] at this
      omega
    · have := nodup_le N S hS (fun k hk => by
        have h1 := h k hk
        have h2 : k ≠ N := fun e => by subst e; exact hN hk
        omega)
      omega

theorem guardA_wanted2 {n : Nat} {ops : Array Oper} {done : List (Option Tmp)} {o : Oper} {T : Env} {a : Act} {b : Bool} (hT : TRel g n T a.tmps)
    (hd : ∀ (j : Nat) (s : Tmp), done[j]? = some (some s) → (ops[j]?).bind (·.dst) = some s ∧ s < n) (h : guardA done o.guard T = some b) : Region.wanted o (yielded ops a.tmps) = b := by
  unfold Region.wanted
  cases hg : o.guard with
  | none => rw [hg] at h; simp only [guardA, Option.some.injEq] at h; exact h
  | some p =>
    obtain ⟨j, want⟩ := p
    rw [hg] at h
    simp only [guardA] at h
    split at h
    · rename_i s hs
      obtain ⟨hdst, hsn⟩ := hd j s hs
      have hlt : s < a.tmps.size := by rw [hT.size]; exact hsn
      have hslot := hT.slot s
      rw [Array.getD_eq_getD_getElem?] at hslot
      obtain ⟨x, hx⟩ : ∃ x, a.tmps[s]? = some x := ⟨_, Array.getElem?_eq_getElem hlt⟩
      rw [hx, Option.getD_some] at hslot
      simp only [yielded, hdst, Option.bind_some, hx]
      split at h
      · rename_i t et
        rw [et] at hslot
        cases hslot
        cases h
        simp
      · rename_i v hnb ev
        rw [ev] at hslot
        cases hslot
        cases h
        cases x <;> first | rfl | exact absurd rfl (hnb _ )
      · cases h
    · cases h

theorem isP_call {mu : Nat → Bool} {o : Oper} (h : isP mu o = true) : callOf o = none := by
  obtain ⟨dst, op, type, pos, after, guard⟩ := o
  cases op with
  | call c =>
    obtain ⟨callee, args, aT⟩ := c
    cases callee with
    | builtin b => rfl
    | _ => simp [isP] at h
  | _ => rfl

theorem PerfTo.any {mu : Nat → Bool} {o : Oper} {T : Env} {v : AV} {H' : Hp} (hp : isP mu o = true) (h : PerfTo P mu o T H v H') (H2 : Hp) : PerfTo P mu o T H2 v H2 := by
  unfold PerfTo at h ⊢
  rw [isP_call hp] at h ⊢
  exact (stepA_P hp h H2).2

theorem any_sound {ops : Array Oper} {T0 : Env} {H0 : Hp} {Ts : Nat → Env} {Hs : Nat → Hp} {vs : Nat → AV} {W : Draw} {mu : Nat → Bool} {n : Nat} {bs : List Nat} {r : Option Nat} {Q : Exit → Act → World → Prop} {ds : List Deferred} {g0 : Gh} {K : Env → Hp → Prop}
    (D : Drawn mu W ops bs) (t0 : Ts 0 = T0) (h0 : Hs 0 = H0)
    (hst : ∀ (i : Nat) (o : Oper), ops[i]? = some o → StepR P mu n W i (ops.toList.map (·.dst)) o (Ts i) (Hs i) (vs i) (Ts (i + 1)) (Hs (i + 1))) (hK : K (Ts ops.size) (Hs ops.size))
    (hQ : ∀ T H g w a, K T H → g0.le g → Sim base w0 g H w → TRel g n T a.tmps → a.defers = ds → Q .normal a w) :
    ∀ (fuel : Nat) (listed : Array Bool) (g : Gh) (w : World) (a : Act), listed.size = ops.size →
      (∀ i j, i < ops.size → j < ops.size → listed.getD i false = true → (bs.getD i 0).testBit j = true → listed.getD j false = true) →
      (∀ S : List Nat, S.Nodup → (∀ i ∈ S, i < ops.size ∧ listed.getD i false = false) → S.length ≤ fuel) →
      g0.le g → Sim base w0 g (Hc H0 Hs W.ev (fun i => listed.getD i false) ops.size) w → TRel g n (Tc ops T0 vs (fun i => listed.getD i false) ops.size) a.tmps → a.defers = ds →
      wpAnyIn (FR r) 0 P .any ops Q fuel listed a w := by
  have hdsts : ∀ (j : Nat) (s : Tmp), (ops.toList.map (·.dst))[j]? = some (some s) → (ops[j]?).bind (·.dst) = some s ∧ s < n := by
    intro j s hs
    rw [List.getElem?_map, Option.map_eq_some_iff] at hs
    obtain ⟨o, ho, hd⟩ := hs
    have ho' : ops[j]? = some o := by simpa using ho
    refine ⟨by rw [ho']; exact hd, ?_⟩
    have := (hst j o ho').dst
    rw [hd] at this
    simpa [dstOk] using this
  have alldone : ∀ (listed : Array Bool) (g : Gh) (w : World) (a : Act), listed.size = ops.size → Region.ready .any ops listed = [] → g0.le g → Sim base w0 g (Hc H0 Hs W.ev (fun i => listed.getD i false) ops.size) w →
      TRel g n (Tc ops T0 vs (fun i => listed.getD i false) ops.size) a.tmps → a.defers = ds → Q .normal a w := by
    intro listed g w a hsz hr hg S hT hd
    have hall : ∀ i, i < ops.size → listed.getD i false = true := by
      intro i
      induction i using Nat.strongRecOn with
      | _ i ih =>
        intro hi
        cases hl : listed.getD i false with
        | true => rfl
        | false =>
          exfalso
          have hmem : i ∈ Region.ready .any ops listed := by
            rw [mem_ready]
            have ho : ops[i]? = some ops[i] := Array.getElem?_eq_getElem hi
            refine ⟨?_, ops[i], ho, fun e he hb => ?_⟩
            · rw [Array.getD_eq_getD_getElem?, Array.getElem?_eq_getElem (by omega), Option.getD_some] at hl ⊢
              exact hl
            · have := D.back i _ ho e he hb
              exact ih e.on this (by omega)
          rw [hr] at hmem
          cases hmem
    have eT : Tc ops T0 vs (fun i => listed.getD i false) ops.size = Ts ops.size := by
      funext t
      exact Tc_upto t0 hst t ops.size (Nat.le_refl _) (fun j o hj _ _ => hall j hj)
    have eH : Hc H0 Hs W.ev (fun i => listed.getD i false) ops.size = Hs ops.size := Hc_upto h0 hst ops.size (Nat.le_refl _) (fun j hj _ => hall j hj)
    rw [eT] at hT
    rw [eH] at S
    exact hQ _ _ g w a hK hg S hT hd
  intro fuel
  induction fuel with
  | zero =>
    intro listed g w a hsz hcl hcnt hg S hT hd
    have hr : Region.ready .any ops listed = [] := by
      apply List.eq_nil_iff_forall_not_mem.2
      intro i hi
      rw [mem_ready] at hi
      obtain ⟨h1, o, ho, _⟩ := hi
      have hlt : i < ops.size := (Array.getElem?_eq_some_iff.1 ho).1
      have := hcnt [i] (by simp) (by
        intro j hj
        simp only [List.mem_singleton] at hj
        subst hj
        refine ⟨hlt, ?_⟩
        rw [Array.getD_eq_getD_getElem?, Array.getElem?_eq_getElem (by omega), Option.getD_some] at h1 ⊢
        exact h1)
      simp at this
    exact ⟨hr, alldone listed g w a hsz hr hg S hT hd⟩
  | succ fuel ih =>
    intro listed g w a hsz hcl hcnt hg S hT hd
    refine ⟨fun hr => alldone listed g w a hsz hr hg S hT hd, fun i hi => ?_⟩
    rw [mem_ready] at hi
    obtain ⟨hli0, o, ho, hedges⟩ := hi
    have hlt : i < ops.size := (Array.getElem?_eq_some_iff.1 ho).1
    have hli : listed.getD i false = false := by
      rw [Array.getD_eq_getD_getElem?, Array.getElem?_eq_getElem (by omega), Option.getD_some] at hli0 ⊢
      exact hli0
    -- what stands before i has been done
    have hanc : ∀ j, j < ops.size → (bs.getD i 0).testBit j = true → listed.getD j false = true := by
      intro j hj ht
      obtain ⟨e, he, hb, h | h⟩ := D.cert i j o ho hj ht
      · subst h; exact hedges e he hb
      · exact hcl e.on j (by have := D.back i o ho e he hb; omega) hj (hedges e he hb) h
    have hlater : ∀ j, j < ops.size → (bs.getD j 0).testBit i = true → listed.getD j false = false := by
      intro j hj ht
      cases hl : listed.getD j false with
      | false => rfl
      | true => rw [hcl j i hj hlt hl ht] at hli; cases hli
    have hslot : ∀ t, t ∈ o.looksAt ops → Tc ops T0 vs (fun i => listed.getD i false) ops.size t = Ts i t := by
      intro t ht
      have h1 := Tc_upto (L := fun i => listed.getD i false) (T0 := T0) t0 hst t i (by omega) (fun j x hj hx hxd => by
        rcases D.free j i x o hx ho hj with h | ⟨h, _⟩
        · exact hanc j (by omega) h
        · exact absurd ht ((Oper.apart_spec h).1 t hxd))
      have h2 := Tc_from (ops := ops) (T0 := T0) (vs := vs) (L := fun i => listed.getD i false) t i (ops.size - i) (fun j x hj hj' hx hxd => by
        rcases Nat.eq_or_lt_of_le hj with rfl | hj
        · exact hli
        · rcases D.free i j o x ho hx hj with h | ⟨h, _⟩
          · exact hlater j (by omega) h
          · exact absurd ht ((Oper.apart_spec h).2.2 t hxd))
      rw [show i + (ops.size - i) = ops.size by omega] at h2
      rw [h2, h1]
    have hheap : (W.ev i = true ∨ (isP mu o || W.rf i) = false) → Hc H0 Hs W.ev (fun i => listed.getD i false) ops.size = Hs i := by
      intro hc
      have h1 := Hc_upto (L := fun i => listed.getD i false) h0 hst i (by omega) (fun j hj hev => by
        have hx : ops[j]? = some ops[j] := Array.getElem?_eq_getElem (by omega)
        rcases D.free j i _ o hx ho hj with h | ⟨_, h⟩
        · exact hanc j (by omega) h
        · rcases hc with hc | hc <;> simp [confl, hev, hc] at h)
      have h2 := Hc_from (H0 := H0) (Hs := Hs) (W := W) (L := fun i => listed.getD i false) i (ops.size - i) (fun j hj hj' hev => by
        rcases Nat.eq_or_lt_of_le hj with rfl | hj
        · exact hli
        · have hx : ops[j]? = some ops[j] := Array.getElem?_eq_getElem (by omega)
          rcases D.free i j o _ ho hx hj with h | ⟨_, h⟩
          · exact hlater j (by omega) h
          · rcases hc with hc | hc <;> simp [confl, hev, hc] at h)
      rw [show i + (ops.size - i) = ops.size by omega] at h2
      rw [h2, h1]
    obtain ⟨hdst, hput, b, hgd, hyes, hno⟩ := hst i o ho
    have hops : ∀ x ∈ o.op.operands, evA (Ts i) x = evA (Tc ops T0 vs (fun i => listed.getD i false) ops.size) x := by
      intro x hx
      refine evA_congr fun t e => ?_
      subst e
      exact (hslot t (List.mem_append_left _ (List.mem_filterMap.2 ⟨.tmp t, by simpa using hx, rfl⟩))).symm
    have hgd' : guardA (ops.toList.map (·.dst)) o.guard (Tc ops T0 vs (fun i => listed.getD i false) ops.size) = some b := by
      rw [← hgd]
      cases hgu : o.guard with
      | none => rfl
      | some p =>
        obtain ⟨j, want⟩ := p
        simp only [guardA]
        cases hq : (ops.toList.map (·.dst))[j]? with
        | none => rfl
        | some q =>
          cases q with
          | none => rfl
          | some s =>
            have hs := (hdsts j s hq).1
            simp only
            rw [hslot s (List.mem_append_right _ (by rw [hgu]; simp [hs]))]
    have hwant := guardA_wanted2 (ops := ops) hT hdsts hgd'
    -- the listed ones, with i
    have hset : ∀ j, (listed.setIfInBounds i true).getD j false = setL (fun i => listed.getD i false) i j := by
      intro j
      unfold setL
      by_cases hj : j = i
      · subst hj
        rw [if_pos rfl, Array.getD_eq_getD_getElem?, Array.getElem?_setIfInBounds, if_pos rfl, if_pos (by omega)]
        rfl
      · rw [if_neg hj, getD_set_ne _ (Ne.symm hj)]
    have hsetf : (fun j => (listed.setIfInBounds i true).getD j false) = setL (fun i => listed.getD i false) i := funext hset
    have hTc : Tc ops T0 vs (setL (fun i => listed.getD i false) i) ops.size = putA (Tc ops T0 vs (fun i => listed.getD i false) ops.size) o.dst (vs i) := by
      funext t
      have h1 := Tc_setL (T0 := T0) (vs := vs) (L := fun i => listed.getD i false) ho hli t (ops.size - (i + 1)) (fun j x hj hj' hx hl hod hxd => by
        rcases D.free i j o x ho hx hj with h | ⟨h, _⟩
        · have h2 := hlater j (by omega) h
          have hl : listed.getD j false = true := hl
          rw [h2] at hl; cases hl
        · exact (Oper.apart_spec h).2.1 t hod hxd)
      rw [show i + 1 + (ops.size - (i + 1)) = ops.size by omega] at h1
      rw [h1]
      by_cases hod : o.dst = some t
      · rw [if_pos hod, hod, putA_eq]
      · rw [if_neg hod, putA_ne hod]
    have hHc : Hc H0 Hs W.ev (setL (fun i => listed.getD i false) i) ops.size = if W.ev i then Hs (i + 1) else Hc H0 Hs W.ev (fun i => listed.getD i false) ops.size := by
      have h1 := Hc_setL (H0 := H0) (Hs := Hs) (W := W) (L := fun i => listed.getD i false) hli (ops.size - (i + 1)) (fun j hj hj' hl hei => by
        have hx : ops[j]? = some ops[j] := Array.getElem?_eq_getElem (by omega)
        rcases D.free i j o _ ho hx hj with h | ⟨_, h⟩
        · have h2 := hlater j (by omega) h
          have hl : listed.getD j false = true := hl
          rw [h2] at hl; cases hl
        · cases hej : W.ev j with
          | false => rfl
          | true => simp [confl, hei, hej] at h)
      rw [show i + 1 + (ops.size - (i + 1)) = ops.size by omega] at h1
      exact h1
    have hcl' : ∀ k j, k < ops.size → j < ops.size → (listed.setIfInBounds i true).getD k false = true → (bs.getD k 0).testBit j = true → (listed.setIfInBounds i true).getD j false = true := by
      intro k j hk hj hl ht
      rw [hset] at hl ⊢
      unfold setL at hl ⊢
      by_cases hji : j = i
      · rw [if_pos hji]
      · rw [if_neg hji]
        by_cases hki : k = i
        · subst hki; exact hanc j hj ht
        · rw [if_neg hki] at hl; exact hcl k j hk hj hl ht
    have hcnt' : ∀ S : List Nat, S.Nodup → (∀ k ∈ S, k < ops.size ∧ (listed.setIfInBounds i true).getD k false = false) → S.length ≤ fuel := by
      intro S hS hk
      have := hcnt (i :: S) (List.nodup_cons.2 ⟨fun hm => by have := (hk i hm).2; rw [hset] at this; simp [setL] at this, hS⟩) (fun k hkm => by
        rcases List.mem_cons.1 hkm with rfl | hkm
        · exact ⟨hlt, hli⟩
        · have h1 := hk k hkm
          refine ⟨h1.1, ?_⟩
          have h2 := h1.2
          rw [hset] at h2
          unfold setL at h2
          by_cases hki : k = i
          · rw [if_pos hki] at h2; cases h2
          · rw [if_neg hki] at h2; exact h2)
      simp at this
      omega
    have hdef : ∀ z, (a.put o.dst z).defers = ds := by intro z; rw [← hd]; cases o.dst <;> rfl
    have go : ∀ z H' g' w', H' = (if W.ev i then Hs (i + 1) else Hc H0 Hs W.ev (fun i => listed.getD i false) ops.size) → g.le g' → Sim base w0 g' H' w' → R g' (vs i) z →
        wpAnyIn (FR r) 0 P .any ops Q fuel (listed.setIfInBounds i true) (a.put o.dst z) w' := by
      intro z H' g' w' hH hg' S' hR
      refine ih _ g' w' _ (by simpa using hsz) hcl' hcnt' (hg.trans hg') ?_ ?_ (hdef z)
      · rw [hsetf, hHc, ← hH]; exact S'
      · rw [hsetf, hTc]; exact (hT.mono hg').put hdst hR
    unfold wpOpIn
    rw [ho]
    simp only
    cases b with
    | true =>
      rw [if_pos hwant]
      obtain ⟨hp, hsame⟩ := hyes rfl
      have hp' := hp.congr hops
      have hperf : PerfTo P mu o (Tc ops T0 vs (fun i => listed.getD i false) ops.size) (Hc H0 Hs W.ev (fun i => listed.getD i false) ops.size) (vs i) (if W.ev i then Hs (i + 1) else Hc H0 Hs W.ev (fun i => listed.getD i false) ops.size) := by
        cases hev : W.ev i with
        | true =>
          rw [if_pos rfl, hheap (.inl hev)]
          exact hp'
        | false =>
          rw [if_neg (by simp)]
          cases hpp : isP mu o with
          | true => exact hp'.any hpp _
          | false =>
            cases hrf : W.rf i with
            | true => exact (hsame.2.2 hrf _ (Hc_agree h0 hst _ (Nat.le_refl _) i (by omega))).congr hops
            | false =>
              rw [hheap (.inr (by rw [hpp, hrf]; rfl))]
              rw [hsame.1 hev] at hp'
              exact hp'
      refine hperf.ok base w0 g w a r S (fun x _ => evA_rel hT x) _ _ (fun v z H' g' w' hk hg' S' hR => ?_)
      obtain ⟨rfl, rfl⟩ := hk
      exact go z _ g' w' rfl hg' S' hR
    | false =>
      rw [if_neg (by rw [hwant]; simp)]
      obtain ⟨hv, hH⟩ := hno rfl
      refine ⟨fun _ _ => trivial, ?_⟩
      refine go undef _ g w ?_ (Gh.le.refl g) S (by rw [hv]; exact .val _)
      cases hev : W.ev i with
      | true => rw [if_pos rfl, hH]; exact hheap (.inl hev)
      | false => rw [if_neg (by simp)]

/-- a region that draws its order -/
theorem Awp.drawn {n : Nat} {rd : Option Nat} {T : Env} {Q : Exit → Env → Hp → Prop} {id : Nat} {ops : Array Oper} (hm : P.follows .mixedOrders = true) (mu : Nat → Bool) (W : Draw) (bs : List Nat) (hok : drawOk mu W ops bs = true)
    (h : wpO P mu n (some W) [] ops.toList T H (Q .normal)) : Awp P n rd (.region id ops true) T H Q := by
  intro base w0 g w a r S hT hr
  refine wpIn_region_any hm ?_
  obtain ⟨Ts, Hs, vs, t0, h0, hK, hst⟩ := trace_of _ _ _ _ h
  have hst' : ∀ (i : Nat) (o : Oper), ops[i]? = some o → StepR P mu n W i (ops.toList.map (·.dst)) o (Ts i) (Hs i) (vs i) (Ts (i + 1)) (Hs (i + 1)) := by
    intro i o ho
    have := hst i o (by simpa using ho)
    simpa using this
  have hT0 : ∀ m, Tc ops T vs (fun i => (Array.replicate ops.size false).getD i false) m = T := by
    intro m
    induction m with
    | zero => rfl
    | succ m ih =>
      show (if (Array.replicate ops.size false).getD m false = true then _ else _) = T
      rw [if_neg (by rw [Array.getD_eq_getD_getElem?, Array.getElem?_replicate]; split <;> simp), ih]
  have hH0 : ∀ m, Hc H Hs W.ev (fun i => (Array.replicate ops.size false).getD i false) m = H := by
    intro m
    induction m with
    | zero => rfl
    | succ m ih =>
      show (if ((Array.replicate ops.size false).getD m false && W.ev m) = true then _ else _) = H
      rw [if_neg (by rw [Array.getD_eq_getD_getElem?, Array.getElem?_replicate]; split <;> simp), ih]
  have hrep : ∀ i, (Array.replicate ops.size false).getD i false = false := by
    intro i
    rw [Array.getD_eq_getD_getElem?, Array.getElem?_replicate]; split <;> rfl
  refine any_sound (base := base) (w0 := w0) (n := n) (K := Q .normal) (g0 := g) (ds := a.defers) (drawOk_spec hok) t0 h0 hst' (by simpa using hK) ?_ ops.size _ g _ a (by simp) (fun i j _ _ hl _ => by rw [hrep] at hl; cases hl) (fun S hS hk => ?_) (Gh.le.refl g)
    (by rw [hH0]; exact S.drew) (by rw [hT0]; exact hT) rfl
  · exact fun T' H' g' w' a' hk hg S' hT' hd => ⟨T', H', g', [], hk, hg, S', hT', hd, Marks.nil _ _⟩
  · exact nodup_le _ S hS fun k hkm => (hk k hkm).1

end Go.Proofs.Ytphfdbmbdaninaa.Ab
