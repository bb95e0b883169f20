/- Ranges over maps and over strings. -/
import Derived.Test.YtdmgljlabigljaaTA
namespace Go.Proofs.Ytdmgljlabigljaa.Ab
open Go Go.RowKit
open Go.MapKept (Stamped)
open Go.ChangeMaps (setBlock)

section
variable {P : Program} {kt et : TypeId} {T : Env} {H : Hp} {ty : TypeId} {pos : String} {aft : Array Edge} {d : Option Tmp} {gd : Option (Nat × Bool)} {t : TypeId} {x it : Operand} {b r : Nat}

/-- a range over a map begins -/
theorem OpOK.rangeM {es : List (AV × AV)} (hu : P.underlying t = some (.map kt et)) (hx : evA T x = .mp b) (hb : H[b]? = some (.amap es)) :
    OpOK P ⟨d, .range t x, ty, pos, aft, gd⟩ T H fun v H' => v = .mptr H.length 0 0 ∧ ∃ ss c, ss.length = es.length ∧ ss.Nodup ∧ H' = H.set b (.amapC es ss c) ++ [.miter b ss c []] := by
  refine OpOK.runs (fun c h => by cases h) fun base w0 g w a S hr => ?_
  have h1 := hr x (by simp [Op.operands])
  rw [hx] at h1
  generalize hxv : a.eval x = xv at h1
  cases h1 with
  | mp hp =>
    rename_i px
    obtain ⟨y, o, q1, q2, q3⟩ := S.obj b _ hb (by simp)
    rw [hp] at q1; cases q1
    cases q3 with
    | amap hl hrr hst =>
    rename_i ms clock
    have S1 : Sim base w0 g (H.set b (.amapC es (ms.toList.map (·.born)) clock)) w := by
      have := S.turn (o' := .map ms clock) (ob' := .amapC es (ms.toList.map (·.born)) clock) hb (by simp) hp (grownBy_putM w px (.map ms clock)) (heap_putM (S.pos b px hp).2) (.amapC hl hrr hst rfl)
      have e : w.putObj px (.map ms clock) = w := by
        unfold World.putObj
        have : w.heap.setIfInBounds px (.map ms clock) = w.heap := by
          refine Array.ext (by simp) fun i h1 h2 => ?_
          rw [Array.getElem_setIfInBounds]
          split
          · rename_i e; subst e
            have := Array.getElem?_eq_some_iff.1 q2
            exact this.2.symm
          · rfl
        rw [this]
      rw [e] at this; exact this
    have S2 := S1.alloc (k := 0) (c := 0) (ob := .miter b (ms.toList.map (·.born)) clock []) (World.grownBy_alloc w (.mapIter (some px) clock #[] clock) none) (heap_alloc_new _ _)
      (.miter (seen := []) ((Gh.phAdd_le (k := 0) (c := 0) (x := w.heap.size) S1.fresh).ph _ _ hp))
    refine ⟨_, .pointer (some ⟨w.heap.size, 0, none⟩), _, _, _, .inl ?_, ⟨rfl, _, _, ?_, hst.2.1, rfl⟩, Gh.phAdd_le S1.fresh, S2, ?_⟩
    · simp only [execOp, Sem.run_bind, hxv, run_range_map w t kt et px ms clock hu q2, Result.andThen_ok, Sem.run_pure]
    · simp [hl]
    · have := R.mptr (g := g.phAdd (H.set b (.amapC es (ms.toList.map (·.born)) clock)).length w.heap.size 0 0) (b := H.length) (i := 0) (off := 0) (x := w.heap.size) (by simp [Gh.phAdd])
      simpa using this

theorem mem_seen {ss : List Nat} (hn : ss.Nodup) {seen : List Nat} {j s : Nat} (hj : ss[j]? = some s) : s ∈ (seen.filterMap fun i => ss[i]?) ↔ j ∈ seen := by
  rw [List.mem_filterMap]
  constructor
  · rintro ⟨i, hi, h⟩
    obtain ⟨a1, a2⟩ := List.getElem?_eq_some_iff.1 h
    obtain ⟨b1, b2⟩ := List.getElem?_eq_some_iff.1 hj
    have : i = j := (List.getElem_inj hn).1 (by rw [a2, b2])
    rw [← this]; exact hi
  · intro h; exact ⟨j, h, hj⟩

/-- one step of a range over a map -/
theorem OpOK.nextM {es : List (AV × AV)} {ss seen : List Nat} {c : Nat} (hn : ss.Nodup) (hx : evA T it = .mptr r 0 0) (hr0 : H[r]? = some (.miter b ss c seen)) (hb : H[b]? = some (.amapC es ss c)) :
    OpOK P ⟨d, .next it false, ty, pos, aft, gd⟩ T H fun v H' => (v = .tup [.val (.bool false)] ∧ H' = H ∧ ∀ j, j < es.length → j ∈ seen) ∨
      ∃ j e, es[j]? = some e ∧ j ∉ seen ∧ v = .tup [.val (.bool true), e.1, e.2] ∧ H' = H.set r (.miter b ss c (seen ++ [j])) := by
  refine OpOK.runs (fun c h => by cases h) fun base w0 g w a S hr => ?_
  have h1 := hr it (by simp [Op.operands])
  rw [hx] at h1
  generalize hxv : a.eval it = xv at h1
  cases h1 with
  | mptr hp =>
    rename_i px
    obtain ⟨y, o, q1, q2, q3⟩ := S.obj r _ hr0 (by simp)
    rw [hp] at q1; cases q1
    cases q3 with
    | miter hpb =>
    rename_i pb
    obtain ⟨y, o, q4, q5, q6⟩ := S.obj b _ hb (by simp)
    rw [hpb] at q4; cases q4
    cases q6 with
    | amapC hl hrr hst hss =>
    rename_i ms
    have hold : ∀ x ∈ ms.toList, x.born < c := hst.1
    have hxv2 : a.eval it = .pointer (some ⟨px, 0, none⟩) := by rw [hxv]; simp
    rcases run_next_at (P := P) w ty px pb c c _ ms c q2 q5 hold (Nat.le_refl _) with ⟨h0, h2⟩ | ⟨e, he, w1, hw1, h2⟩
    · refine ⟨_, .tuple #[.bool false], H, g, w, .inl ?_, .inl ⟨rfl, rfl, fun j hj => ?_⟩, Gh.le.refl g, S, ?_⟩
      · simp only [execOp, Sem.run_bind, hxv2, h2, Result.andThen_ok, Sem.run_pure]
      · have hjm : j < ms.size := by omega
        have hs : ss[j]? = some ms[j].born := by rw [← hss]; simp [hjm]
        rw [← mem_seen hn hs]
        refine Classical.byContradiction fun hno => ?_
        have : ms[j] ∈ leftOf ms (seen.filterMap fun i => ss[i]?).toArray := by
          unfold leftOf
          rw [Array.mem_filter]
          refine ⟨Array.getElem_mem hjm, ?_⟩
          simp only [Bool.not_eq_true', List.contains_toArray]
          rw [← Bool.not_eq_true]
          intro hc
          exact hno (by simpa using hc)
        have := Array.size_pos_of_mem this
        omega
      · exact .tup rfl fun i c x hc hx => by
          match i with
          | 0 => simp at hc hx; subst hc; subst hx; exact .val _
          | n + 1 => simp at hc
    · obtain ⟨hm1, hm2⟩ := mem_left he
      obtain ⟨j, hj⟩ := List.getElem?_of_mem hm1
      have hjm : j < ms.size := by have := (List.getElem?_eq_some_iff.1 hj).1; simpa using this
      have hje : j < es.length := by omega
      have hs : ss[j]? = some e.born := by rw [← hss, List.getElem?_map, hj]; rfl
      have hns : j ∉ seen := by
        rw [← mem_seen hn hs]
        intro h
        rw [List.contains_toArray] at hm2
        rw [List.contains_iff_mem.2 h] at hm2
        cases hm2
      have S1 : Sim base w0 g H w1 := by rcases hw1 with rfl | rfl
                                         · exact S
                                         · exact S.drew
      have hlt1 : px < w1.heap.size := by rcases hw1 with rfl | rfl <;> exact (S.pos r px hp).2
      obtain ⟨x1, x2⟩ := hrr j es[j] e (List.getElem?_eq_getElem hje) (by simpa using hj)
      have hpush : ((seen.filterMap fun i => ss[i]?).toArray.push e.born) = ((seen ++ [j]).filterMap fun i => ss[i]?).toArray := by
        rw [List.filterMap_append]
        simp [hs]
      have S2 := S1.turn (o' := .mapIter (some pb) c ((seen ++ [j]).filterMap fun i => ss[i]?).toArray c) (ob' := .miter b ss c (seen ++ [j])) hr0 (by simp) hp (grownBy_putM w1 px _) (heap_putM hlt1) (.miter hpb)
      refine ⟨_, .tuple #[.bool true, e.key, e.val], _, g, _, .inl ?_, .inr ⟨j, es[j], List.getElem?_eq_getElem hje, hns, rfl, rfl⟩, Gh.le.refl g, S2, ?_⟩
      · simp only [execOp, Sem.run_bind, hxv2, h2, Result.andThen_ok, Sem.run_pure, hpush]
        rfl
      · exact .tup rfl fun i c x hc hx => by
          match i with
          | 0 => simp at hc hx; subst hc; subst hx; exact .val _
          | 1 => simp at hc hx; subst hc; subst hx; exact x1
          | 2 => simp at hc hx; subst hc; subst hx; exact x2
          | n + 3 => simp at hc

/-- the key and the value of the step -/
theorem OpOK.entryM {es : List (AV × AV)} {ss seen : List Nat} {c j : Nat} {e : AV × AV} (hx : evA T it = .mptr r 0 0) (hr0 : H[r]? = some (.miter b ss c (seen ++ [j]))) (hb : H[b]? = some (.amapC es ss c)) (he : es[j]? = some e) :
    OpOK P ⟨d, .entry it, ty, pos, aft, gd⟩ T H fun v H' => v = .tup [e.1, e.2] ∧ H' = H := by
  refine OpOK.runs (fun c h => by cases h) fun base w0 g w a S hr => ?_
  have h1 := hr it (by simp [Op.operands])
  rw [hx] at h1
  generalize hxv : a.eval it = xv at h1
  cases h1 with
  | mptr hp =>
    rename_i px
    obtain ⟨y, o, q1, q2, q3⟩ := S.obj r _ hr0 (by simp)
    rw [hp] at q1; cases q1
    cases q3 with
    | miter hpb =>
    rename_i pb
    obtain ⟨y, o, q4, q5, q6⟩ := S.obj b _ hb (by simp)
    rw [hpb] at q4; cases q4
    cases q6 with
    | amapC hl hrr hst hss =>
    rename_i ms
    have hxv2 : a.eval it = .pointer (some ⟨px, 0, none⟩) := by rw [hxv]; simp
    have hjm : j < ms.size := by have := (List.getElem?_eq_some_iff.1 he).1; omega
    have hm : ms[j]? = some ms[j] := Array.getElem?_eq_getElem hjm
    have hs : ss[j]? = some ms[j].born := by rw [← hss]; simp [hjm]
    have hpush : ((seen ++ [j]).filterMap fun i => ss[i]?).toArray = ((seen.filterMap fun i => ss[i]?).toArray.push ms[j].born) := by
      rw [List.filterMap_append]
      simp [hs]
    rw [hpush] at q2
    have h2 := run_entry_at (P := P) w px pb c _ ms c ms[j] q2 q5 (by simp) hst.2.1
    obtain ⟨x1, x2⟩ := hrr j e ms[j] he hm
    refine ⟨_, .tuple #[ms[j].key, ms[j].val], H, g, w, .inl ?_, ⟨rfl, rfl⟩, Gh.le.refl g, S, tup2_rel x1 x2⟩
    simp only [execOp, Sem.run_bind, hxv2, h2, Result.andThen_ok, Sem.run_pure]

/-- a range over a string begins -/
theorem OpOK.rangeS {s : ByteArray} (hu : P.underlying t = some .string) (hx : evA T x = .val (.string s)) :
    OpOK P ⟨d, .range t x, ty, pos, aft, gd⟩ T H fun v H' => v = .mptr H.length 0 0 ∧ H' = H ++ [.siter s 0] := by
  refine OpOK.runs (fun c h => by cases h) fun base w0 g w a S hr => ?_
  have h1 := hr x (by simp [Op.operands])
  rw [hx] at h1
  generalize hxv : a.eval x = xv at h1
  cases h1
  have S2 := S.alloc (k := 0) (c := 0) (ob := .siter s 0) (World.grownBy_alloc w (.stringIter s 0) none) (heap_alloc_new _ _) (.siter s 0)
  refine ⟨_, .pointer (some ⟨w.heap.size, 0, none⟩), _, _, _, .inl ?_, ⟨rfl, rfl⟩, Gh.phAdd_le S.fresh, S2, ?_⟩
  · simp only [execOp, Sem.run_bind, hxv]
    simp [Instr.range, run_underlying hu]
  · have := R.mptr (g := g.phAdd H.length w.heap.size 0 0) (b := H.length) (i := 0) (off := 0) (x := w.heap.size) (by simp [Gh.phAdd])
    simpa using this

/-- one step of a range over a string -/
theorem OpOK.nextS {s : ByteArray} {p : Nat} (hx : evA T it = .mptr r 0 0) (hr0 : H[r]? = some (.siter s p)) :
    OpOK P ⟨d, .next it true, ty, pos, aft, gd⟩ T H fun v H' => (¬ p < s.size ∧ v = .tup [.val (.bool false)] ∧ H' = H) ∨
      (p < s.size ∧ v = .tup [.val (.bool true), .val (.int .i64 p), .val (.int .i32 (Utf8.decode s p).1)] ∧ H' = H.set r (.siter s (p + (Utf8.decode s p).2))) := by
  refine OpOK.runs (fun c h => by cases h) fun base w0 g w a S hr => ?_
  have h1 := hr it (by simp [Op.operands])
  rw [hx] at h1
  generalize hxv : a.eval it = xv at h1
  cases h1 with
  | mptr hp =>
    rename_i px
    obtain ⟨y, o, q1, q2, q3⟩ := S.obj r _ hr0 (by simp)
    rw [hp] at q1; cases q1
    cases q3
    have hxv2 : a.eval it = .pointer (some ⟨px, 0, none⟩) := by rw [hxv]; simp
    have hg : (getObj px).run P w = .ok (.stringIter s p) w := by simp [getObj, Sem.run, q2]
    by_cases hps : p < s.size
    · have hset : (setObj px (.stringIter s (p + (Utf8.decode s p).2))).run P w = .ok () (w.putObj px (.stringIter s (p + (Utf8.decode s p).2))) := by simp [setObj, Sem.run, q2, World.putObj]
      have S2 := S.turn (o' := .stringIter s (p + (Utf8.decode s p).2)) (ob' := .siter s (p + (Utf8.decode s p).2)) hr0 (by simp) hp (grownBy_putM w px _) (heap_putM (S.pos r px hp).2) (.siter _ _)
      refine ⟨_, .tuple #[.bool true, .int .i64 p, .int .i32 (Utf8.decode s p).1], _, g, _, .inl ?_, .inr ⟨hps, rfl, rfl⟩, Gh.le.refl g, S2, ?_⟩
      · simp only [execOp, Sem.run_bind, hxv2]
        unfold Instr.next
        simp only [Sem.run_bind, hg, Result.andThen_ok, hps, if_true, hset, Sem.run_pure]
        rfl
      · exact .tup rfl fun i c x hc hx => by
          match i with
          | 0 => simp at hc hx; subst hc; subst hx; exact .val _
          | 1 => simp at hc hx; subst hc; subst hx; exact .val _
          | 2 => simp at hc hx; subst hc; subst hx; exact .val _
          | n + 3 => simp at hc
    · refine ⟨_, .tuple #[.bool false], H, g, w, .inl ?_, .inl ⟨hps, rfl, rfl⟩, Gh.le.refl g, S, ?_⟩
      · simp only [execOp, Sem.run_bind, hxv2]
        unfold Instr.next
        simp only [Sem.run_bind, hg, Result.andThen_ok, hps, if_false, Sem.run_pure]
      · exact .tup rfl fun i c x hc hx => by
          match i with
          | 0 => simp at hc hx; subst hc; subst hx; exact .val _
          | n + 1 => simp at hc
end

section
variable {P : Program} {n : Nat} {rd : Option Nat} {T : Env} {H : Hp} {Q : Exit → Env → Hp → Prop}
/-- the range is over: the map is a map again -/
theorem Awp.unC {cd : Code} {b c : Nat} {es : List (AV × AV)} {ss : List Nat} (hb : H[b]? = some (.amapC es ss c)) (h : Awp P n rd cd T (H.set b (.amap es)) Q) : Awp P n rd cd T H Q := by
  unfold Awp at *
  intro base w0 g w a r S hTR hr
  have h5 := S.retell (s := b) (ob := .amapC es ss c) (ob' := .amap es) hb (by simp) (by
    intro k cp o h
    cases h with
    | amapC hl hr hs hss => exact .amap hl hr hs)
  exact h base w0 g w a r h5 hTR hr
end

end Go.Proofs.Ytdmgljlabigljaa.Ab
