/- Regions whose operations are told one by one; a slice from its middle; clear. slices.IndexFunc and slices.DeleteFunc over numbers, with a function that turns the heap. slices.DeleteFunc over numbers, with a function that turns the heap. The program's Ack: what DeleteFunc does to a buffer. Buffers: the records that are due. -/
import Derived.Test.YtlhchnnfgppneaaYG
import Derived.Test.YtlhchnnfgppneaaYH
import Derived.Test.YtlhchnnfgppneaaYM
import Derived.Test.YtlhchnnfgppneaaYL
namespace Go.Proofs.Ytlhchnnfgppneaa.Ab
open Go Go.RowKit Go.Proofs
set_option linter.unusedSimpArgs false
set_option linter.unusedVariables false

section
variable {base : Nat} {w0 w w' : World} {g : Gh} {H : Hp} {P : Program} {n : Nat} {rd : Option Nat} {T : Env} {Q : Exit → Env → Hp → Prop}

/-- operations in a row, each told by the machine's word -/
def wpW (P : Program) (n : Nat) : List Oper → Env → Hp → (Env → Hp → Prop) → Prop
  | [], T, H, K => K T H
  | o :: rest, T, H, K => dstOk n o.dst = true ∧ o.guard = none ∧ OpOK P o T H fun v H' => wpW P n rest (putA T o.dst v) H' K

theorem wpW_sound {ops : Array Oper} {r : Option Nat} {Q : Exit → Act → World → Prop} {base : Nat} {w0 : World} {ds : List Deferred} {g0 : Gh} {K : Env → Hp → Prop}
    (hQ : ∀ T H g w a, K T H → g0.le g → Sim base w0 g H w → TRel g n T a.tmps → a.defers = ds → Q .normal a w) :
    ∀ (l : List Oper) (T : Env) (H : Hp) (g : Gh) (w : World) (a : Act), g0.le g → Sim base w0 g H w →
      TRel g n T a.tmps → a.defers = ds → wpW P n l T H K → wpListIn (FR r) 0 P ops Q l a w
  | [], T, H, g, w, a, hg, S, hT, hd, h => hQ T H g w a h hg S hT hd
  | o :: rest, T, H, g, w, a, hg, S, hT, hd, h => by
    obtain ⟨hdst, hgd, h1⟩ := h
    have hw : Region.wanted o (yielded ops a.tmps) = true := by simp [Region.wanted, hgd]
    have hput : ∀ z, (a.put o.dst z).defers = a.defers := by intro z; cases o.dst <;> rfl
    unfold wpListIn
    rw [if_pos hw]
    refine h1 base w0 g w a r S (fun x _ => evA_rel hT x) _ _ (fun v z H' g' w' hk hg' S' hR => ?_)
    exact wpW_sound hQ rest _ H' g' w' _ (hg.trans hg') S' ((hT.mono hg').put hdst hR) (by rw [hput]; exact hd) hk

/-- a region without an order of its own, told so -/
theorem Awp.regionW {id : Nat} {ops : Array Oper} (h : wpW P n ops.toList T H (Q .normal)) : Awp P n rd (.region id ops false) T H Q := by
  intro base w0 g w a r S hT hr
  refine wpIn_region_list ?_
  exact wpW_sound (ops := ops) (r := r) (base := base) (w0 := w0) (ds := a.defers) (g0 := g) (K := Q .normal)
    (Q := fun e a' w' => ∃ T' H' g' ds, Q e T' H' ∧ g.le g' ∧ Sim base w0 g' H' w' ∧ TRel g' n T' a'.tmps ∧ a'.defers = ds ++ a.defers ∧ Marks g g' ds)
    (fun T H g' w' a' hk hg S' hT' hd => ⟨T, H, g', [], hk, hg, S', hT', hd, Marks.nil _ _⟩) ops.toList T H g w a (Gh.le.refl g) S hT rfl h
end

section
variable {T : Env} {H : Hp} {k : AV → Hp → Prop} {o : Oper}

theorem opMove {x : Operand} (ho : o.op = .move x) (hk : k (evA T x) H) : OpOK Try.prog o T H k := OpOK.step (mu := fun _ => false) (v := evA T x) (H' := H) (by simp [stepA, ho]) hk

theorem ints1 (v : List Int) : (v.map fun x => [AV.val (.int .i64 x)]).all (fun e => e.length == 1) = true := by simp

theorem opSliceLo {x i : Operand} {b len lo : Nat} {v : List Int} (ho : o.op = .slice 46 x (some i) none none) (hx : evA T x = .msl b 0 len) (hi : evA T i = .val (.int .i64 lo))
    (hb : H[b]? = some (.cells (v.map fun x => [.val (.int .i64 x)]) 2)) (hn : len ≤ v.length) (hl : lo < len) (hk : k (.msl b lo (len - lo)) H) : OpOK Try.prog o T H k := by
  intro base w0 g w a r S hr next Q hnx
  have hex : o.semAt (FR r).round a.eval = execOp a.eval o := Oper.semAt_eq _ _ _ (by intro c hc; rw [ho] at hc; cases hc)
  have h0 := hr x (by rw [ho]; simp [Op.operands, Call.operands])
  have h1 := hr i (by rw [ho]; simp [Op.operands, Call.operands])
  rw [hx] at h0
  rw [hi] at h1
  obtain ⟨y, cap, cur, hv, hy, hks, hlc, hcc, hcm, hw, hcur, hF⟩ := msl_flat S h0 hb (by simpa using hn) (ints1 v) (by simp; omega)
  generalize hiv : a.eval i = iv at h1
  cases h1
  have hinf : ∃ inf, Try.prog.info? 2 = some inf ∧ inf.size = 1 := by
    obtain ⟨i0, hi0, h0, h1, h2⟩ := info_parts i_inf2
    exact ⟨i0, hi0, h1⟩
  obtain ⟨inf, hi2, hs1⟩ := hinf
  have hrun := bounds_run (P := Try.prog) (w := w) (g := g) (lo := some (.val (.int .i64 (lo : Int)))) (hi := none) (mx := none) (lov := some (.int .i64 (lo : Int))) (hiv := none) (mxv := none) (len := len) (cap := cap) (l := lo) (h := len) (m := cap)
    (by simp [bnd]) rfl rfl (show R g _ _ from .val _) trivial trivial (by omega) hlc (Nat.le_refl _) (by simp)
  have hex2 : (execOp a.eval o).run Try.prog w = .ok (.value (.slice (some ⟨y, lo, none⟩) (len - lo) (cap - lo))) w := by
    simp only [execOp, ho, Option.map_some, Option.map_none, hv, hiv, Instr.sliceAt, Instr.slice, Sem.run_bind, run_underlying i_at46, Result.andThen_ok, run_sizeOf _ _ hi2, Sem.run_pure, hrun]
    have hne : ¬ cap = lo := by omega
    simp [hne, Addr.add, hs1, eq_comm]
  refine ⟨fun _ _ => trivial, ?_⟩
  rw [hex, hex2]
  refine hnx _ _ H g w hk (Gh.le.refl g) S ?_
  have := R.msl (g := g) (b := b) (off := lo) (len := len - lo) (x := y) (cap := cap - lo) hy (by omega) (by omega) (by omega)
  rwa [hks, Nat.mul_one] at this

theorem opClear {x : Operand} {b lo m : Nat} {v : List Int} (ho : o.op = .call ⟨.builtin .clear, #[x], #[46]⟩) (hx : evA T x = .msl b lo m)
    (hb : H[b]? = some (.cells (v.map fun x => [.val (.int .i64 x)]) 2)) (hn : lo + m ≤ v.length) (h0 : 0 < m) (hk : ∀ (u : AV) (v' : List Int), v'.length = v.length → v'.take lo = v.take lo → k u (H.set b (.cells (v'.map fun x => [.val (.int .i64 x)]) 2))) : OpOK Try.prog o T H k := by
  intro base w0 g w a r S hr next Q hnx
  have hex : o.semAt (FR r).round a.eval = execOp a.eval o := Oper.semAt_eq _ _ _ (by intro c hc; rw [ho] at hc; cases hc)
  have h0' := hr x (by rw [ho]; simp [Op.operands, Call.operands])
  rw [hx] at h0'
  obtain ⟨y, cap, cur, hv, hy, hks, hlc, hcc, hcm, hw, hcur, hF⟩ := msl_flat S h0' hb (by simpa using hn) (ints1 v) (by simp; omega)
  obtain ⟨y2, o2, h1, h2, h3⟩ := S.obj b _ hb (by simp)
  rw [hy] at h1; cases h1
  rw [hw] at h2; cases h2
  cases h3 with
  | cells hs hl hk' hr' =>
  rw [hks] at hs hr' hk'
  simp only [Nat.mul_one] at hs hr' hv
  obtain ⟨zs, hzs⟩ : ∃ zs, zs = (Builtin.zeroCells (Value.int .i64 0).cells m).toList := ⟨_, rfl⟩
  have hzl : zs.length = m := by rw [hzs]; simp [Builtin.zeroCells, Value.cells]
  have hza : ∀ u ∈ zs, u = .int .i64 0 := by
    intro u hu
    rw [hzs] at hu
    simp only [Builtin.zeroCells, Value.cells, Array.toList_map, List.mem_map] at hu
    obtain ⟨i, hi, rfl⟩ := hu
    simp [Nat.mod_one]
  have hz1 : ∀ u ∈ zs, u.oneCell' = true := by intro u hu; rw [hza u hu]; rfl
  have hst := run_storeCells_at Try.prog y lo 2 zs 0 cur w hw (by rw [hzl]; omega) hz1
  have hex2 : (execOp a.eval o).run Try.prog w = .ok (.value (.tuple #[])) (w.setRow y (setAt cur.toList lo zs).toArray) := by
    have e1 : (Builtin.clear_ #[46] o.type #[.slice (some ⟨y, lo, none⟩) m cap]).run Try.prog w = .ok (.tuple #[]) (w.setRow y (setAt cur.toList lo zs).toArray) := by
      obtain ⟨m', rfl⟩ : ∃ m', m = m' + 1 := ⟨m - 1, by omega⟩
      simp [Builtin.clear_, run_underlying i_at46, i_zv2, ← hzs, hst, setAt]
    simp only [execOp, ho, resolve, invoke, builtin, Sem.run_bind, Sem.run_pure, Result.andThen_ok, List.map_toArray, List.map_cons, List.map_nil, hv, e1]
  refine ⟨fun _ _ => trivial, ?_⟩
  rw [hex, hex2]
  obtain ⟨v', hv'⟩ : ∃ v', v' = v.take lo ++ List.replicate m (0 : Int) ++ v.drop (lo + m) := ⟨_, rfl⟩
  have hvl : v'.length = v.length := by rw [hv']; simp; omega
  have hvt : v'.take lo = v.take lo := by rw [hv', List.append_assoc, List.take_append_of_le_length (by simp; omega), List.take_take, Nat.min_self]
  have hsl : lo + zs.length ≤ cur.toList.length := by rw [hzl]; simp; omega
  refine hnx _ _ _ g _ (hk _ v' hvl hvt) (Gh.le.refl g) (S.turn hb (by simp) hy (w' := w.setRow y (setAt cur.toList lo zs).toArray) ⟨rfl, rfl, rfl, by simp [World.setRow], fun k _ hk => setRow_other w y k _ (fun e => hk (by simp [e]))⟩ (setRow_heap w y cur _ 2 _ hw) ?_) (.val _)
  rw [hks]
  refine .cells (by simp only [List.size_toArray]; rw [setAt_length _ _ _ hsl]; simpa using hs) (by simpa [hvl] using hl) (fun i e he => ?_) (fun i e j c he hc => ?_)
  · rw [List.getElem?_map, Option.map_eq_some_iff] at he
    obtain ⟨_, _, rfl⟩ := he; rfl
  · rw [List.getElem?_map, Option.map_eq_some_iff] at he
    obtain ⟨x1, hx1, rfl⟩ := he
    have hj : j = 0 := by have := (List.getElem?_eq_some_iff.1 hc).1; simp at this; omega
    subst hj
    simp at hc; subst hc
    simp only [Nat.mul_one, Nat.add_zero, List.getElem?_toArray]
    have hi : i < v.length := by rw [← hvl]; exact (List.getElem?_eq_some_iff.1 hx1).1
    rw [setAt_get _ _ _ _ hsl, hzl]
    have hold : ∀ z, v[i]? = some z → ∃ u, cur.toList[i]? = some u ∧ R g (.val (.int .i64 z)) u := by
      intro z hz
      obtain ⟨u, u1, u2⟩ := hr' i [.val (.int .i64 z)] 0 (.val (.int .i64 z)) (by rw [List.getElem?_map, hz]; rfl) rfl
      exact ⟨u, by simpa using u1, u2⟩
    by_cases c1 : i < lo
    · rw [if_pos c1]
      refine hold x1 ?_
      rw [hv', List.append_assoc, List.getElem?_append_left (by simp; omega), List.getElem?_take, if_pos c1] at hx1
      exact hx1
    · rw [if_neg c1]
      by_cases c2 : i < lo + m
      · rw [if_pos c2]
        rw [hv', List.append_assoc, List.getElem?_append_right (by simp; omega), List.getElem?_append_left (by simp; omega), List.getElem?_replicate] at hx1
        split at hx1
        · cases hx1
          have hzi : zs[i - lo]? = some zs[i - lo] := List.getElem?_eq_getElem (by omega)
          refine ⟨_, hzi, ?_⟩
          rw [hza _ (List.getElem_mem _)]
          exact .val _
        · cases hx1
      · rw [if_neg c2]
        refine hold x1 ?_
        rw [hv', List.getElem?_append_right (by simp; omega), List.getElem?_drop] at hx1
        simp at hx1
        rw [show lo + m + (i - (min lo v.length + m)) = i by omega] at hx1
        exact hx1
end

end Go.Proofs.Ytlhchnnfgppneaa.Ab
namespace Go.Proofs.Ytlhchnnfgppneaa.Ab
open Go Go.RowKit Go.Proofs
set_option linter.unusedSimpArgs false
set_option linter.unusedVariables false
attribute [local irreducible] Awp wpO thenQ blockQ bodyQ ACalls stepA

/-- a function that is asked of the numbers of a row, one after the other -/
def AsksI (f : FuncId) (cap : List AV) (b : Nat) (v : List Int) (p : Int → Bool) (I : Nat → Hp → Prop) : Prop :=
  ∀ (j : Nat) (x : Int) (K : Hp), v[j]? = some x → I j K → ACalls Try.prog f ([iv x] ++ cap) K fun v1 K1 => v1 = bv (p x) ∧ K1[b]? = K[b]? ∧ I (j + 1) K1

set_option maxRecDepth 8000 in
theorem indexI_ok {H : Hp} {b n : Nat} {u : List Int} {f : FuncId} {cap : List AV} {p : Int → Bool} {I : Nat → Hp → Prop} (hb : H[b]? = some (.cells (ints u) 2)) (hn : n ≤ u.length) (hm : n ≤ maxLen)
    (hf : AsksI f cap b (u.take n) p I) (h0 : I 0 H) : ACalls Try.prog 98 [.msl b 0 n, .fn (.func f) cap] H fun v1 K1 =>
      (∃ i x, i < n ∧ u[i]? = some x ∧ p x = true ∧ (∀ j y, j < i → u[j]? = some y → p y = false) ∧ v1 = iv (i : Int) ∧ I (i + 1) K1 ∧ K1[b]? = H[b]?) ∨
      (v1 = iv (-1) ∧ (∀ j y, j < n → u[j]? = some y → p y = false) ∧ I n K1 ∧ K1[b]? = H[b]?) := by
  have hul := ints_len u
  refine ACalls.of_body Try.func98 rfl (by kernel_rfl) (by rw [Try.ntmps98]; simp) ?_; rw [Try.ntmps98]
  repeat' (first | refine spD (fun _ => ?_) (fun _ => ?_) | refine spF (fun _ => ?_) (fun _ => ?_) | (apply gT; (exact rfl)) | (apply off; (exact rfl); (exact rfl)) | (apply condT; (exact rfl)) | (apply condF; (exact rfl)) | ((first | (apply stp0; (exact rfl); (exact rfl)) | (apply stpN0; (exact rfl)) | apply gT | apply condT | ((first | apply bodyQ_d0 | apply bodyQ_d1 | apply bodyQ_d2 | apply bodyQ_d3 | apply bodyQ_d4); (exact .inr rfl); (rw [Try.results98]))); (first | (focus (simp only [go_sem, ↓reduceIte, simprocAttr] <;> rfl)) | exact rfl); (first | (fail_if_success (show okD _ _ _ _ _ _ _ _ _)) | (first | exact okT | exact okN | exact okE rfl)); (first | (fail_if_success (show Bel _ _)) | (focus first | exact .val _ | (simp [oneOf, Bel_iff_tup, Bel_iff_agg, Bel_iff_rsl, Bel_iff_fn, Bel_iff_rptr, Bel_val]; done)))) | refine thenQ_n ?_ | refine thenQ_r ?_ | refine thenQ_e ?_ | refine blockQ_n ?_ | refine blockQ_r ?_ | refine blockQ_e ?_ | (apply blockQ_o; (exact rfl)) | refine Awp.seq ?_ | refine Awp.skip ?_ | refine Awp.block ?_ | refine reg (fun s => false) ?_ | (apply drwE mixed (fun s => false); (kernel_rfl)) | refine fin ?_ | refine Awp.ret ?_ | refine Awp.exit ?_ | ((first | (apply off; (exact rfl)) | apply condF); (first | (focus (simp only [go_sem, ↓reduceIte, simprocAttr] <;> rfl)) | exact rfl)))
  refine Awp.loop (ι := Nat) (fun i T' K => i ≤ n ∧ T' 8 = iv i ∧ T' 7 = iv n ∧ T' 0 = .msl b 0 n ∧ T' 1 = .fn (.func f) cap ∧ K[b]? = H[b]? ∧ I i K ∧ (∀ j y, j < i → u[j]? = some y → p y = false)) (fun i => n - i) 0 ?_ ?_
  · refine ⟨Nat.zero_le _, ?_, ?_, ?_, ?_, rfl, h0, fun j y hj => absurd hj (Nat.not_lt_zero _)⟩
    · (first | (focus (simp only [go_sem, ↓reduceIte, simprocAttr]; first | done | rfl)) | rfl)
    · (first | (focus (simp only [go_sem, ↓reduceIte, simprocAttr]; first | done | rfl)) | rfl)
    · (first | (focus (simp only [go_sem, ↓reduceIte, simprocAttr]; first | done | rfl)) | rfl)
    · (first | (focus (simp only [go_sem, ↓reduceIte, simprocAttr]; first | done | rfl)) | rfl)
  rintro i T K ⟨hi, h8, h7, t0, t1, hKb, hI, hno⟩
  by_cases hlt : i < n
  · obtain ⟨x, hx⟩ := nth (l := u) (i := i) (Nat.lt_of_lt_of_le hlt hn)
    have hxt : (u.take n)[i]? = some x := by rw [List.getElem?_take, if_pos hlt]; exact hx
    have hbK : K[b]? = some (.cells (ints u) 2) := by rw [hKb]; exact hb
    have hui : (ints u)[i]? = some [iv x] := nthMap (fun x => [iv x]) hx
    have hsu := wsucc hlt hm
    repeat' (first | refine spD (fun _ => ?_) (fun _ => ?_) | refine spF (fun _ => ?_) (fun _ => ?_) | (apply gT; (exact rfl)) | (apply off; (exact rfl); (exact rfl)) | (apply condT; (exact rfl)) | (apply condF; (exact rfl)) | ((first | (apply stp0; (exact rfl); (exact rfl)) | (apply stpN0; (exact rfl)) | apply gT | apply condT | ((first | apply bodyQ_d0 | apply bodyQ_d1 | apply bodyQ_d2 | apply bodyQ_d3 | apply bodyQ_d4); (exact .inr rfl); (rw [Try.results98]))); (first | (focus (simp only [go_sem, ↓reduceIte, simprocAttr, Int.ofNat_lt.2 hlt, h8, h7, t0, t1, hbK, hul, hui, hlt, Nat.zero_add] <;> rfl)) | exact rfl); (first | (fail_if_success (show okD _ _ _ _ _ _ _ _ _)) | (first | exact okT | exact okN | exact okE rfl)); (first | (fail_if_success (show Bel _ _)) | (focus first | exact .val _ | (simp [oneOf, Bel_iff_tup, Bel_iff_agg, Bel_iff_rsl, Bel_iff_fn, Bel_iff_rptr, Bel_val]; done)))) | refine thenQ_n ?_ | refine thenQ_r ?_ | refine thenQ_e ?_ | refine blockQ_n ?_ | refine blockQ_r ?_ | refine blockQ_e ?_ | (apply blockQ_o; (exact rfl)) | refine Awp.seq ?_ | refine Awp.skip ?_ | refine Awp.block ?_ | refine reg (fun s => false) ?_ | (apply drwE mixed (fun s => false); (kernel_rfl)) | refine fin ?_ | refine Awp.ret ?_ | refine Awp.exit ?_ | ((first | (apply off; (exact rfl)) | apply condF); (first | (focus (simp only [go_sem, ↓reduceIte, simprocAttr, Int.ofNat_lt.2 hlt, h8, h7, t0, t1, hbK, hul, hui, hlt, Nat.zero_add] <;> rfl)) | exact rfl)))
    all_goals first | contradiction | (exfalso; omega) | skip
    refine cal rfl rfl rfl ?_ (show ACallV Try.prog (.fn (.func f) cap) [iv x] K _ from hf i x K hxt hI) ?_
    · (first | (focus (simp only [go_sem, ↓reduceIte, simprocAttr]; first | done | rfl)) | rfl)
    rintro v1 K1 ⟨rfl, hb1, hI1⟩
    cases hp : p x with
    | true =>
      repeat' (first | refine spD (fun _ => ?_) (fun _ => ?_) | refine spF (fun _ => ?_) (fun _ => ?_) | (apply gT; (exact rfl)) | (apply off; (exact rfl); (exact rfl)) | (apply condT; (exact rfl)) | (apply condF; (exact rfl)) | ((first | (apply stp0; (exact rfl); (exact rfl)) | (apply stpN0; (exact rfl)) | apply gT | apply condT); (first | (focus (simp only [go_sem, ↓reduceIte, simprocAttr] <;> rfl)) | exact rfl); (first | (fail_if_success (show okD _ _ _ _ _ _ _ _ _)) | (first | exact okT | exact okN | exact okE rfl))) | refine thenQ_n ?_ | refine thenQ_r ?_ | refine thenQ_e ?_ | refine blockQ_n ?_ | refine blockQ_r ?_ | refine blockQ_e ?_ | (apply blockQ_o; (exact rfl)) | refine Awp.seq ?_ | refine Awp.skip ?_ | refine Awp.block ?_ | refine reg (fun s => false) ?_ | (apply drwE mixed (fun s => false); (kernel_rfl)) | refine fin ?_ | refine Awp.ret ?_ | refine Awp.exit ?_ | ((first | (apply off; (exact rfl)) | apply condF); (first | (focus (simp only [go_sem, ↓reduceIte, simprocAttr] <;> rfl)) | exact rfl)))
      all_goals first | contradiction | (exfalso; omega) | skip
      exact bodyQ_mk (vs := [iv i]) (.inr rfl) (by rw [Try.results98]; simp only [go_sem, ↓reduceIte, simprocAttr]) (Vs.refl _ _ _) (.inl ⟨i, x, hlt, hx, hp, hno, rfl, hI1, hb1.trans hKb⟩)
    | false =>
      repeat' (first | refine spD (fun _ => ?_) (fun _ => ?_) | refine spF (fun _ => ?_) (fun _ => ?_) | (apply gT; (exact rfl)) | (apply off; (exact rfl); (exact rfl)) | (apply condT; (exact rfl)) | (apply condF; (exact rfl)) | ((first | (apply stp0; (exact rfl); (exact rfl)) | (apply stpN0; (exact rfl)) | apply gT | apply condT | ((first | apply bodyQ_d0 | apply bodyQ_d1 | apply bodyQ_d2 | apply bodyQ_d3 | apply bodyQ_d4); (exact .inr rfl); (rw [Try.results98]))); (first | (focus (simp only [go_sem, ↓reduceIte, simprocAttr, hsu, h8] <;> rfl)) | exact rfl); (first | (fail_if_success (show okD _ _ _ _ _ _ _ _ _)) | (first | exact okT | exact okN | exact okE rfl)); (first | (fail_if_success (show Bel _ _)) | (focus first | exact .val _ | (simp [oneOf, Bel_iff_tup, Bel_iff_agg, Bel_iff_rsl, Bel_iff_fn, Bel_iff_rptr, Bel_val]; done)))) | refine thenQ_n ?_ | refine thenQ_r ?_ | refine thenQ_e ?_ | refine blockQ_n ?_ | refine blockQ_r ?_ | refine blockQ_e ?_ | (apply blockQ_o; (exact rfl)) | refine Awp.seq ?_ | refine Awp.skip ?_ | refine Awp.block ?_ | refine reg (fun s => false) ?_ | (apply drwE mixed (fun s => false); (kernel_rfl)) | refine fin ?_ | refine Awp.ret ?_ | refine Awp.exit ?_ | ((first | (apply off; (exact rfl)) | apply condF); (first | (focus (simp only [go_sem, ↓reduceIte, simprocAttr, hsu, h8] <;> rfl)) | exact rfl)))
      all_goals first | contradiction | (exfalso; omega) | skip
      refine ⟨i + 1, ⟨hlt, ?_, ?_, ?_, ?_, hb1.trans hKb, hI1, fun j y hj hy => ?_⟩, Nat.sub_lt_sub_left hlt (Nat.lt_succ_self i)⟩
      · (first | (focus (simp only [go_sem, ↓reduceIte, simprocAttr, hsu]; first | done | rfl)) | rfl)
      · (first | (focus (simp only [go_sem, ↓reduceIte, simprocAttr, h7]; first | done | rfl)) | rfl)
      · (first | (focus (simp only [go_sem, ↓reduceIte, simprocAttr, t0]; first | done | rfl)) | rfl)
      · (first | (focus (simp only [go_sem, ↓reduceIte, simprocAttr, t1]; first | done | rfl)) | rfl)
      · rcases Nat.lt_succ_iff_lt_or_eq.1 hj with h | h
        · exact hno j y h hy
        · subst h; rw [hx] at hy; cases hy; exact hp
  · have hie : i = n := Nat.le_antisymm hi (Nat.not_lt.1 hlt)
    subst hie
    repeat' (first | refine spD (fun _ => ?_) (fun _ => ?_) | refine spF (fun _ => ?_) (fun _ => ?_) | (apply gT; (exact rfl)) | (apply off; (exact rfl); (exact rfl)) | (apply condT; (exact rfl)) | (apply condF; (exact rfl)) | ((first | (apply stp0; (exact rfl); (exact rfl)) | (apply stpN0; (exact rfl)) | apply gT | apply condT); (first | (focus (simp only [go_sem, ↓reduceIte, simprocAttr, Int.lt_irrefl, h8, h7] <;> rfl)) | exact rfl); (first | (fail_if_success (show okD _ _ _ _ _ _ _ _ _)) | (first | exact okT | exact okN | exact okE rfl))) | refine thenQ_n ?_ | refine thenQ_r ?_ | refine thenQ_e ?_ | refine blockQ_n ?_ | refine blockQ_r ?_ | refine blockQ_e ?_ | (apply blockQ_o; (exact rfl)) | refine Awp.seq ?_ | refine Awp.skip ?_ | refine Awp.block ?_ | refine reg (fun s => false) ?_ | (apply drwE mixed (fun s => false); (kernel_rfl)) | refine fin ?_ | refine Awp.ret ?_ | refine Awp.exit ?_ | ((first | (apply off; (exact rfl)) | apply condF); (first | (focus (simp only [go_sem, ↓reduceIte, simprocAttr, Int.lt_irrefl, h8, h7] <;> rfl)) | exact rfl)))
    all_goals first | contradiction | (exfalso; omega) | skip
    exact bodyQ_mk (vs := [iv (-1)]) (.inr rfl) (by rw [Try.results98]; simp only [go_sem, ↓reduceIte, simprocAttr]) (Vs.refl _ _ _) (.inr ⟨rfl, hno, hI, hKb⟩)

end Go.Proofs.Ytlhchnnfgppneaa.Ab
namespace Go.Proofs.Ytlhchnnfgppneaa.Ab
open Go Go.RowKit Go.Proofs
set_option linter.unusedSimpArgs false
set_option linter.unusedVariables false
attribute [local irreducible] Awp wpO thenQ blockQ bodyQ ACalls stepA

def keepI (p : Int → Bool) (l : List Int) : List Int := l.filter fun x => !p x
theorem keepI_succ {p : Int → Bool} {l : List Int} {i : Nat} {x : Int} (hi : l[i]? = some x) : keepI p (l.take (i + 1)) = if p x then keepI p (l.take i) else keepI p (l.take i) ++ [x] := by
  unfold keepI
  rw [List.take_add_one, hi]
  cases h : p x <;> simp [h]
theorem keepI_all {p : Int → Bool} {l : List Int} {n : Nat} (h : ∀ j y, j < n → l[j]? = some y → p y = false) : keepI p (l.take n) = l.take n := by
  unfold keepI
  rw [List.filter_eq_self]
  intro x hx
  obtain ⟨j, hj⟩ := List.getElem?_of_mem hx
  rw [List.getElem?_take] at hj
  split at hj
  · rename_i hjn
    rw [h j x hjn hj]; rfl
  · cases hj
theorem setI_take {w : List Int} {k : Nat} {x : Int} (hk : k < w.length) : (w.set k x).take (k + 1) = w.take k ++ [x] := by
  rw [List.take_add_one, List.getElem?_set_self hk, List.take_set_of_le (Nat.le_refl _)]; rfl

set_option maxRecDepth 8000 in
set_option maxHeartbeats 4000000 in
theorem deleteI_ok {H : Hp} {b n : Nat} {u : List Int} {f : FuncId} {cap : List AV} {p : Int → Bool} {I : Nat → Hp → Prop} (hb : H[b]? = some (.cells (ints u) 2)) (hn : n ≤ u.length) (hm : n ≤ maxLen)
    (hf : AsksI f cap b (u.take n) p I) (hs : ∀ j K c, I j K → I j (K.set b c)) (h0 : I 0 H) : ACalls Try.prog 66 [.msl b 0 n, .fn (.func f) cap] H fun v1 K1 =>
      ∃ u', v1 = .msl b 0 (keepI p (u.take n)).length ∧ K1[b]? = some (.cells (ints u') 2) ∧ u'.length = u.length ∧ u'.take (keepI p (u.take n)).length = keepI p (u.take n) ∧ I n K1 := by
  refine ACalls.of_body Try.func66 rfl (by kernel_rfl) (by rw [Try.ntmps66]; simp) ?_; rw [Try.ntmps66]
  repeat' (first | refine spD (fun _ => ?_) (fun _ => ?_) | refine spF (fun _ => ?_) (fun _ => ?_) | (apply gT; (exact rfl)) | (apply off; (exact rfl); (exact rfl)) | (apply condT; (exact rfl)) | (apply condF; (exact rfl)) | ((first | (apply stp0; (exact rfl); (exact rfl)) | (apply stpN0; (exact rfl)) | apply gT | apply condT | ((first | apply bodyQ_d0 | apply bodyQ_d1 | apply bodyQ_d2 | apply bodyQ_d3 | apply bodyQ_d4); (exact .inr rfl); (rw [Try.results66]))); (first | (focus (simp only [go_sem, ↓reduceIte, simprocAttr] <;> rfl)) | exact rfl); (first | (fail_if_success (show okD _ _ _ _ _ _ _ _ _)) | (first | exact okT | exact okN | exact okE rfl)); (first | (fail_if_success (show Bel _ _)) | (focus first | exact .val _ | (simp [oneOf, Bel_iff_tup, Bel_iff_agg, Bel_iff_rsl, Bel_iff_fn, Bel_iff_rptr, Bel_val]; done)))) | refine thenQ_n ?_ | refine thenQ_r ?_ | refine thenQ_e ?_ | refine blockQ_n ?_ | refine blockQ_r ?_ | refine blockQ_e ?_ | (apply blockQ_o; (exact rfl)) | refine Awp.seq ?_ | refine Awp.skip ?_ | refine Awp.block ?_ | refine reg (fun s => false) ?_ | (apply drwE mixed (fun s => false); (kernel_rfl)) | refine fin ?_ | refine Awp.ret ?_ | refine Awp.exit ?_ | ((first | (apply off; (exact rfl)) | apply condF); (first | (focus (simp only [go_sem, ↓reduceIte, simprocAttr] <;> rfl)) | exact rfl)))
  refine cal rfl rfl rfl ?_ (show ACallV Try.prog (.fn (.func 98) []) [.msl b 0 n, .fn (.func f) cap] H _ from indexI_ok hb hn hm hf h0) ?_
  · (first | (focus (simp only [go_sem, ↓reduceIte, simprocAttr]; first | done | rfl)) | rfl)
  rintro v1 K1 (⟨i, x, hi, hx, hp, hno, rfl, hI, hbK⟩ | ⟨rfl, hno, hI, hbK⟩)
  · have hne : ¬ ((i : Int) = -1) := by omega
    have hsi := wsucc hi hm
    repeat' (first | refine spD (fun _ => ?_) (fun _ => ?_) | refine spF (fun _ => ?_) (fun _ => ?_) | (apply gT; (exact rfl)) | (apply off; (exact rfl); (exact rfl)) | (apply condT; (exact rfl)) | (apply condF; (exact rfl)) | ((first | (apply stp0; (exact rfl); (exact rfl)) | (apply stpN0; (exact rfl)) | apply gT | apply condT | ((first | apply bodyQ_d0 | apply bodyQ_d1 | apply bodyQ_d2 | apply bodyQ_d3 | apply bodyQ_d4); (exact .inr rfl); (rw [Try.results66]))); (first | (focus (simp only [go_sem, ↓reduceIte, simprocAttr, hne, hsi] <;> rfl)) | exact rfl); (first | (fail_if_success (show okD _ _ _ _ _ _ _ _ _)) | (first | exact okT | exact okN | exact okE rfl)); (first | (fail_if_success (show Bel _ _)) | (focus first | exact .val _ | (simp [oneOf, Bel_iff_tup, Bel_iff_agg, Bel_iff_rsl, Bel_iff_fn, Bel_iff_rptr, Bel_val]; done)))) | refine thenQ_n ?_ | refine thenQ_r ?_ | refine thenQ_e ?_ | refine blockQ_n ?_ | refine blockQ_r ?_ | refine blockQ_e ?_ | (apply blockQ_o; (exact rfl)) | refine Awp.seq ?_ | refine Awp.skip ?_ | refine Awp.block ?_ | refine reg (fun s => false) ?_ | (apply drwE mixed (fun s => false); (kernel_rfl)) | refine fin ?_ | refine Awp.ret ?_ | refine Awp.exit ?_ | ((first | (apply off; (exact rfl)) | apply condF); (first | (focus (simp only [go_sem, ↓reduceIte, simprocAttr, hne, hsi] <;> rfl)) | exact rfl)))
    all_goals first | contradiction | (exfalso; omega) | skip
    refine Awp.loop (ι := Nat) (fun j T' K => j ≤ n ∧ T' 6 = iv j ∧ T' 0 = .msl b 0 n ∧ T' 1 = .fn (.func f) cap ∧ I j K ∧ ∃ k w, T' 5 = iv (k : Nat) ∧ k = (keepI p (u.take j)).length ∧ k < j ∧ K[b]? = some (.cells (ints w) 2) ∧ w.length = u.length ∧ w.take k = keepI p (u.take j) ∧ ∀ l, j ≤ l → w[l]? = u[l]?) (fun j => n - j) (i + 1) ?_ ?_
    · refine ⟨hi, ?_, ?_, ?_, hI, i, u, ?_, ?_, Nat.lt_succ_self i, by rw [hbK]; exact hb, rfl, ?_, fun _ _ => rfl⟩
      · (first | (focus (simp only [go_sem, ↓reduceIte, simprocAttr, hsi]; first | done | rfl)) | rfl)
      · (first | (focus (simp only [go_sem, ↓reduceIte, simprocAttr]; first | done | rfl)) | rfl)
      · (first | (focus (simp only [go_sem, ↓reduceIte, simprocAttr]; first | done | rfl)) | rfl)
      · (first | (focus (simp only [go_sem, ↓reduceIte, simprocAttr]; first | done | rfl)) | rfl)
      · rw [keepI_succ hx, if_pos hp, keepI_all hno, List.length_take]; omega
      · rw [keepI_succ hx, if_pos hp, keepI_all hno]
    rintro j T K ⟨hj, t6, t0, t1, hI, k, w, t5, hk, hkj, hbw, hwl, hwt, hwd⟩
    have hwl2 := ints_len w
    by_cases hlt : j < n
    · obtain ⟨y, hy⟩ := nth (l := u) (i := j) (Nat.lt_of_lt_of_le hlt hn)
      have hyt : (u.take n)[j]? = some y := by rw [List.getElem?_take, if_pos hlt]; exact hy
      have hwj : (ints w)[j]? = some [iv y] := nthMap (fun x => [iv x]) (by rw [hwd j (Nat.le_refl _)]; exact hy)
      have hsu := wsucc hlt hm
      have hksn := wsucc (Nat.lt_trans hkj hlt) hm
      repeat' (first | refine spD (fun _ => ?_) (fun _ => ?_) | refine spF (fun _ => ?_) (fun _ => ?_) | (apply gT; (exact rfl)) | (apply off; (exact rfl); (exact rfl)) | (apply condT; (exact rfl)) | (apply condF; (exact rfl)) | ((first | (apply stp0; (exact rfl); (exact rfl)) | (apply stpN0; (exact rfl)) | apply gT | apply condT | ((first | apply bodyQ_d0 | apply bodyQ_d1 | apply bodyQ_d2 | apply bodyQ_d3 | apply bodyQ_d4); (exact .inr rfl); (rw [Try.results66]))); (first | (focus (simp only [go_sem, ↓reduceIte, simprocAttr, Int.ofNat_lt.2 hlt, t6, t0, t1, hbw, hwl2, hwj, hlt, Nat.zero_add] <;> rfl)) | exact rfl); (first | (fail_if_success (show okD _ _ _ _ _ _ _ _ _)) | (first | exact okT | exact okN | exact okE rfl)); (first | (fail_if_success (show Bel _ _)) | (focus first | exact .val _ | (simp [oneOf, Bel_iff_tup, Bel_iff_agg, Bel_iff_rsl, Bel_iff_fn, Bel_iff_rptr, Bel_val]; done)))) | refine thenQ_n ?_ | refine thenQ_r ?_ | refine thenQ_e ?_ | refine blockQ_n ?_ | refine blockQ_r ?_ | refine blockQ_e ?_ | (apply blockQ_o; (exact rfl)) | refine Awp.seq ?_ | refine Awp.skip ?_ | refine Awp.block ?_ | refine reg (fun s => false) ?_ | (apply drwE mixed (fun s => false); (kernel_rfl)) | refine fin ?_ | refine Awp.ret ?_ | refine Awp.exit ?_ | ((first | (apply off; (exact rfl)) | apply condF); (first | (focus (simp only [go_sem, ↓reduceIte, simprocAttr, Int.ofNat_lt.2 hlt, t6, t0, t1, hbw, hwl2, hwj, hlt, Nat.zero_add] <;> rfl)) | exact rfl)))
      all_goals first | contradiction | (exfalso; omega) | skip
      refine cal rfl rfl rfl ?_ (show ACallV Try.prog (.fn (.func f) cap) [iv y] K _ from hf j y K hyt hI) ?_
      · (first | (focus (simp only [go_sem, ↓reduceIte, simprocAttr, t1]; first | done | rfl)) | rfl)
      rintro v1 J ⟨rfl, hb1, hI1⟩
      have hbJ : J[b]? = some (.cells (ints w) 2) := by rw [hb1]; exact hbw
      cases hpy : p y with
      | true =>
        repeat' (first | refine spD (fun _ => ?_) (fun _ => ?_) | refine spF (fun _ => ?_) (fun _ => ?_) | (apply gT; (exact rfl)) | (apply off; (exact rfl); (exact rfl)) | (apply condT; (exact rfl)) | (apply condF; (exact rfl)) | ((first | (apply stp0; (exact rfl); (exact rfl)) | (apply stpN0; (exact rfl)) | apply gT | apply condT | ((first | apply bodyQ_d0 | apply bodyQ_d1 | apply bodyQ_d2 | apply bodyQ_d3 | apply bodyQ_d4); (exact .inr rfl); (rw [Try.results66]))); (first | (focus (simp only [go_sem, ↓reduceIte, simprocAttr, hsu, t6] <;> rfl)) | exact rfl); (first | (fail_if_success (show okD _ _ _ _ _ _ _ _ _)) | (first | exact okT | exact okN | exact okE rfl)); (first | (fail_if_success (show Bel _ _)) | (focus first | exact .val _ | (simp [oneOf, Bel_iff_tup, Bel_iff_agg, Bel_iff_rsl, Bel_iff_fn, Bel_iff_rptr, Bel_val]; done)))) | refine thenQ_n ?_ | refine thenQ_r ?_ | refine thenQ_e ?_ | refine blockQ_n ?_ | refine blockQ_r ?_ | refine blockQ_e ?_ | (apply blockQ_o; (exact rfl)) | refine Awp.seq ?_ | refine Awp.skip ?_ | refine Awp.block ?_ | refine reg (fun s => false) ?_ | (apply drwE mixed (fun s => false); (kernel_rfl)) | refine fin ?_ | refine Awp.ret ?_ | refine Awp.exit ?_ | ((first | (apply off; (exact rfl)) | apply condF); (first | (focus (simp only [go_sem, ↓reduceIte, simprocAttr, hsu, t6] <;> rfl)) | exact rfl)))
        all_goals first | contradiction | (exfalso; omega) | skip
        refine ⟨j + 1, ⟨hlt, ?_, ?_, ?_, hI1, k, w, ?_, ?_, Nat.lt_succ_of_lt hkj, hbJ, hwl, ?_, fun l hl => hwd l (Nat.le_of_succ_le hl)⟩, Nat.sub_lt_sub_left hlt (Nat.lt_succ_self j)⟩
        · (first | (focus (simp only [go_sem, ↓reduceIte, simprocAttr, hsu]; first | done | rfl)) | rfl)
        · (first | (focus (simp only [go_sem, ↓reduceIte, simprocAttr, t0]; first | done | rfl)) | rfl)
        · (first | (focus (simp only [go_sem, ↓reduceIte, simprocAttr, t1]; first | done | rfl)) | rfl)
        · (first | (focus (simp only [go_sem, ↓reduceIte, simprocAttr, t5]; first | done | rfl)) | rfl)
        · rw [keepI_succ hy, if_pos hpy]; exact hk
        · rw [keepI_succ hy, if_pos hpy]; exact hwt
      | false =>
        have hkw : k < w.length := by omega
        have hkn : k < n := Nat.lt_trans hkj hlt
        obtain ⟨z, hz⟩ := nth (l := w) (i := k) hkw
        have hwk : (ints w)[k]? = some [iv z] := nthMap (fun x => [iv x]) hz
        have hse : (ints w).set k [iv y] = ints (w.set k y) := by simp [ints, List.map_set]
        repeat' (first | refine spD (fun _ => ?_) (fun _ => ?_) | refine spF (fun _ => ?_) (fun _ => ?_) | (apply gT; (exact rfl)) | (apply off; (exact rfl); (exact rfl)) | (apply condT; (exact rfl)) | (apply condF; (exact rfl)) | ((first | (apply stp0; (exact rfl); (exact rfl)) | (apply stpN0; (exact rfl)) | apply gT | apply condT | ((first | apply bodyQ_d0 | apply bodyQ_d1 | apply bodyQ_d2 | apply bodyQ_d3 | apply bodyQ_d4); (exact .inr rfl); (rw [Try.results66]))); (first | (focus (simp only [go_sem, ↓reduceIte, simprocAttr, hsu, t6, t0, t5, hbJ, hwl2, hwk, hkn, hksn, hse, Nat.zero_add] <;> rfl)) | exact rfl); (first | (fail_if_success (show okD _ _ _ _ _ _ _ _ _)) | (first | exact okT | exact okN | exact okE rfl)); (first | (fail_if_success (show Bel _ _)) | (focus first | exact .val _ | (simp [oneOf, Bel_iff_tup, Bel_iff_agg, Bel_iff_rsl, Bel_iff_fn, Bel_iff_rptr, Bel_val]; done)))) | refine thenQ_n ?_ | refine thenQ_r ?_ | refine thenQ_e ?_ | refine blockQ_n ?_ | refine blockQ_r ?_ | refine blockQ_e ?_ | (apply blockQ_o; (exact rfl)) | refine Awp.seq ?_ | refine Awp.skip ?_ | refine Awp.block ?_ | refine reg (fun s => false) ?_ | (apply drwE mixed (fun s => false); (kernel_rfl)) | refine fin ?_ | refine Awp.ret ?_ | refine Awp.exit ?_ | ((first | (apply off; (exact rfl)) | apply condF); (first | (focus (simp only [go_sem, ↓reduceIte, simprocAttr, hsu, t6, t0, t5, hbJ, hwl2, hwk, hkn, hksn, hse, Nat.zero_add] <;> rfl)) | exact rfl)))
        all_goals first | contradiction | (exfalso; omega) | skip
        refine ⟨j + 1, ⟨hlt, ?_, ?_, ?_, hs _ _ _ hI1, k + 1, w.set k y, ?_, ?_, Nat.succ_lt_succ hkj, ?_, ?_, ?_, fun l hl => ?_⟩, Nat.sub_lt_sub_left hlt (Nat.lt_succ_self j)⟩
        · (first | (focus (simp only [go_sem, ↓reduceIte, simprocAttr, hsu]; first | done | rfl)) | rfl)
        · (first | (focus (simp only [go_sem, ↓reduceIte, simprocAttr, t0]; first | done | rfl)) | rfl)
        · (first | (focus (simp only [go_sem, ↓reduceIte, simprocAttr, t1]; first | done | rfl)) | rfl)
        · (first | (focus (simp only [go_sem, ↓reduceIte, simprocAttr, hksn]; first | done | rfl)) | rfl)
        · rw [keepI_succ hy, if_neg (by rw [hpy]; simp), List.length_append, ← hk]; rfl
        · exact (heldS hbJ).1 _
        · rw [List.length_set]; exact hwl
        · rw [keepI_succ hy, if_neg (by rw [hpy]; simp), setI_take hkw, hwt]
        · rw [List.getElem?_set_ne (by omega)]; exact hwd l (Nat.le_of_succ_le hl)
    · have hje : j = n := Nat.le_antisymm hj (Nat.not_lt.1 hlt)
      subst hje
      repeat' ((fail_if_success (apply stopR (id := 11))); (fail_if_success (apply stopS (id := 11))); first | refine spD (fun _ => ?_) (fun _ => ?_) | refine spF (fun _ => ?_) (fun _ => ?_) | (apply gT; (exact rfl)) | (apply off; (exact rfl); (exact rfl)) | (apply condT; (exact rfl)) | (apply condF; (exact rfl)) | ((first | (apply stp0; (exact rfl); (exact rfl)) | (apply stpN0; (exact rfl)) | apply gT | apply condT | ((first | apply bodyQ_d0 | apply bodyQ_d1 | apply bodyQ_d2 | apply bodyQ_d3 | apply bodyQ_d4); (exact .inr rfl); (rw [Try.results66]))); (first | (focus (simp only [go_sem, ↓reduceIte, simprocAttr, Int.lt_irrefl, t6, t0] <;> rfl)) | exact rfl); (first | (fail_if_success (show okD _ _ _ _ _ _ _ _ _)) | (first | exact okT | exact okN | exact okE rfl)); (first | (fail_if_success (show Bel _ _)) | (focus first | exact .val _ | (simp [oneOf, Bel_iff_tup, Bel_iff_agg, Bel_iff_rsl, Bel_iff_fn, Bel_iff_rptr, Bel_val]; done)))) | refine thenQ_n ?_ | refine thenQ_r ?_ | refine thenQ_e ?_ | refine blockQ_n ?_ | refine blockQ_r ?_ | refine blockQ_e ?_ | (apply blockQ_o; (exact rfl)) | refine Awp.seq ?_ | refine Awp.skip ?_ | refine Awp.block ?_ | refine reg (fun s => false) ?_ | (apply drwE mixed (fun s => false); (kernel_rfl)) | refine fin ?_ | refine Awp.ret ?_ | refine Awp.exit ?_ | ((first | (apply off; (exact rfl)) | apply condF); (first | (focus (simp only [go_sem, ↓reduceIte, simprocAttr, Int.lt_irrefl, t6, t0] <;> rfl)) | exact rfl)))
      all_goals first | contradiction | (exfalso; omega) | skip
      refine Awp.seq (Awp.regionW ⟨rfl, rfl, opMove rfl ⟨rfl, rfl, opMove rfl ⟨rfl, rfl, ?_⟩⟩⟩)
      refine opSliceLo (len := j) (lo := k) rfl (by exact t0) (by exact t5) hbw (by omega) hkj ?_
      refine ⟨rfl, rfl, opClear (lo := k) (m := j - k) rfl (by rfl) hbw (by omega) (by omega) fun v u' hul hut => ?_⟩
      refine thenQ_n ?_
      refine Awp.withT (fun T' => T' 0 = .msl b 0 j ∧ T' 5 = iv (k : Nat)) ⟨by exact t0, by exact t5⟩ ?_
      clear t0 t5 t6 t1
      rintro T2 ⟨t0, t5⟩
      have hbc := (heldS hbw).1 (.cells (ints u') 2)
      have hkn : k ≤ j := Nat.le_of_lt hkj
      repeat' (first | refine spD (fun _ => ?_) (fun _ => ?_) | refine spF (fun _ => ?_) (fun _ => ?_) | (apply gT; (exact rfl)) | (apply off; (exact rfl); (exact rfl)) | (apply condT; (exact rfl)) | (apply condF; (exact rfl)) | ((first | (apply stp0; (exact rfl); (exact rfl)) | (apply stpN0; (exact rfl)) | apply gT | apply condT); (first | (focus (simp only [go_sem, ↓reduceIte, simprocAttr, t0, t5, hkn] <;> rfl)) | exact rfl); (first | (fail_if_success (show okD _ _ _ _ _ _ _ _ _)) | (first | exact okT | exact okN | exact okE rfl))) | refine thenQ_n ?_ | refine thenQ_r ?_ | refine thenQ_e ?_ | refine blockQ_n ?_ | refine blockQ_r ?_ | refine blockQ_e ?_ | (apply blockQ_o; (exact rfl)) | refine Awp.seq ?_ | refine Awp.skip ?_ | refine Awp.block ?_ | refine reg (fun s => false) ?_ | (apply drwE mixed (fun s => false); (kernel_rfl)) | refine fin ?_ | refine Awp.ret ?_ | refine Awp.exit ?_ | ((first | (apply off; (exact rfl)) | apply condF); (first | (focus (simp only [go_sem, ↓reduceIte, simprocAttr, t0, t5, hkn] <;> rfl)) | exact rfl)))
      all_goals first | contradiction | (exfalso; omega) | skip
      refine bodyQ_mk (vs := [.msl b 0 k]) (.inr rfl) (by rw [Try.results66]; simp only [go_sem, ↓reduceIte, simprocAttr]) (Vs.refl _ _ _) ⟨u', by rw [← hk]; rfl, hbc, by rw [hul, hwl], ?_, hs _ _ _ hI⟩
      rw [← hk, hut, hwt]
  · repeat' (first | refine spD (fun _ => ?_) (fun _ => ?_) | refine spF (fun _ => ?_) (fun _ => ?_) | (apply gT; (exact rfl)) | (apply off; (exact rfl); (exact rfl)) | (apply condT; (exact rfl)) | (apply condF; (exact rfl)) | ((first | (apply stp0; (exact rfl); (exact rfl)) | (apply stpN0; (exact rfl)) | apply gT | apply condT); (first | (focus (simp only [go_sem, ↓reduceIte, simprocAttr] <;> rfl)) | exact rfl); (first | (fail_if_success (show okD _ _ _ _ _ _ _ _ _)) | (first | exact okT | exact okN | exact okE rfl))) | refine thenQ_n ?_ | refine thenQ_r ?_ | refine thenQ_e ?_ | refine blockQ_n ?_ | refine blockQ_r ?_ | refine blockQ_e ?_ | (apply blockQ_o; (exact rfl)) | refine Awp.seq ?_ | refine Awp.skip ?_ | refine Awp.block ?_ | refine reg (fun s => false) ?_ | (apply drwE mixed (fun s => false); (kernel_rfl)) | refine fin ?_ | refine Awp.ret ?_ | refine Awp.exit ?_ | ((first | (apply off; (exact rfl)) | apply condF); (first | (focus (simp only [go_sem, ↓reduceIte, simprocAttr] <;> rfl)) | exact rfl)))
    all_goals first | contradiction | (exfalso; omega) | skip
    have e := keepI_all hno
    have e2 : (u.take n).length = n := by rw [List.length_take]; omega
    exact bodyQ_mk (vs := [.msl b 0 n]) (.inr rfl) (by rw [Try.results66]; simp only [go_sem, ↓reduceIte, simprocAttr]) (Vs.refl _ _ _) ⟨u, by rw [e, e2]; rfl, by rw [hbK]; exact hb, rfl, by rw [e, e2], hI⟩

end Go.Proofs.Ytlhchnnfgppneaa.Ab
namespace Go.Proofs.Ytlhchnnfgppneaa.Ab
open Go Go.RowKit Go.Proofs
set_option linter.unusedSimpArgs false
set_option linter.unusedVariables false
attribute [local irreducible] Awp wpO thenQ blockQ bodyQ ACalls stepA

theorem findH_mid {x : Hd} (y : Int) : ∀ (A B : List Hd), (idsL (A ++ x :: B)).Nodup → findH (A ++ B) y = if y = x.r.id then none else findH (A ++ x :: B) y := by
  intro A
  induction A with
  | nil =>
    intro B hn
    have hn' := List.nodup_cons.1 (show (x.r.id :: idsL B).Nodup from hn)
    show findH B y = if y = x.r.id then none else (if y = x.r.id then some x else findH B y)
    split
    · rename_i e; rw [e]; exact findH_none.2 hn'.1
    · rfl
  | cons h l ih =>
    intro B hn
    have hn' := List.nodup_cons.1 (show (h.r.id :: idsL (l ++ x :: B)).Nodup from hn)
    have hne : x.r.id ≠ h.r.id := fun e => hn'.1 (by rw [← e]; simp [idsL])
    show (if y = h.r.id then some h else findH (l ++ B) y) = if y = x.r.id then none else (if y = h.r.id then some h else findH (l ++ x :: B) y)
    rw [ih B hn'.2]
    by_cases k : y = h.r.id
    · rw [if_pos k, if_pos k, if_neg (by rw [k]; exact Ne.symm hne)]
    · rw [if_neg k, if_neg k]

def Bf.keep (f : Int → Bool) (S : Bf) : Bf := { S with used := sumH (keepL f S.L), L := keepL f S.L }
/-- what is held when the first j have been asked -/
def midL (f : Int → Bool) (L : List Hd) (j : Nat) : List Hd := keepL f (L.take j) ++ L.drop j
theorem midL_zero (f : Int → Bool) (L : List Hd) : midL f L 0 = L := by simp [midL, keepL]
theorem midL_all (f : Int → Bool) (L : List Hd) : midL f L L.length = keepL f L := by simp [midL]
theorem drop_at {L : List Hd} {j : Nat} {h : Hd} (hj : L[j]? = some h) : L.drop j = h :: L.drop (j + 1) := by
  rw [List.drop_eq_getElem_cons (List.getElem?_eq_some_iff.1 hj).1, (List.getElem?_eq_some_iff.1 hj).2]
theorem midL_at {f : Int → Bool} {L : List Hd} {j : Nat} {h : Hd} (hj : L[j]? = some h) : midL f L j = keepL f (L.take j) ++ h :: L.drop (j + 1) := by unfold midL; rw [drop_at hj]
theorem midL_succ {f : Int → Bool} {L : List Hd} {j : Nat} {h : Hd} (hj : L[j]? = some h) : midL f L (j + 1) = if f h.r.id then keepL f (L.take j) ++ L.drop (j + 1) else midL f L j := by
  rw [midL_at hj]
  unfold midL
  rw [keepL_succ hj]
  split
  · rfl
  · rw [List.append_assoc]; rfl
theorem midL_sub (f : Int → Bool) (L : List Hd) (j : Nat) : (midL f L j).Sublist L := by
  conv => rhs; rw [← List.take_append_drop j L]
  exact (List.filter_sublist).append_right _
theorem idsL_sub {A B : List Hd} (h : A.Sublist B) : (idsL A).Sublist (idsL B) := h.map _
theorem keepL_ids (f : Int → Bool) (L : List Hd) : idsL (keepL f L) = keepI f (idsL L) := by
  unfold idsL keepL keepI
  rw [List.filter_map]; rfl
theorem sumH_mid (A B : List Hd) (x : Hd) : sumH (A ++ x :: B) = sumH (A ++ B) + x.bytes := by
  unfold sumH
  simp only [List.map_append, List.map_cons, List.sum_append, List.sum_cons]; omega
theorem Good.keepG {f : Int → Bool} {S : Bf} (h : Good S) : Good (S.keep f) := by
  have hs : (keepL f S.L).Sublist S.L := List.filter_sublist
  exact ⟨(idsL_sub hs).nodup h.nd, fun x hx => h.ok x (hs.subset hx), rfl, Nat.le_trans hs.length_le h.len, h.cap, h.srt.sublist hs⟩

/-- between two questions -/
structure AI (H : Hp) (F : Ft) (w : Rw) (f : Int → Bool) (L : List Hd) (j : Nat) (K : Hp) : Prop where
  ex : ∃ w', RepW K F w' ∧ w'.cap = w.cap ∧ w'.time = w.time ∧ w'.ord = w.ord ∧ w'.used = sumH (midL f L j) ∧ MapIs w'.kr (recF (midL f L j)) ∧ MapIs w'.ks (smF (midL f L j)) ∧ MapIs w'.kt (stF (midL f L j))
  fr : FrO F w H K

theorem AI.asks {H : Hp} {F : Ft} {w : Rw} {L : List Hd} {s : List (Int × Int)} {ex : Bool} (hc : setC s = 0) (hm : s.length ≤ maxLen) (hnd : (idsL L).Nodup) (hok : ∀ h ∈ L, h.r.ok) (hl : L.length ≤ 257) {b : Nat} (hF : H[b]? = H[b]? ∧ b < H.length ∧ b ≠ F.b ∧ b ≠ F.r ∧ b ≠ F.s ∧ b ≠ F.t) :
    AsksI 67 [.rptr [.rsl (sps s) ex] 0, .rptr [.mptr F.b 0 0] 0] b (idsL L) (isInB s) (AI H F w (isInB s) L) := by
  intro j x K hx hI
  obtain ⟨⟨w', hR, h1, h2, h3, h4, q1, q2, q3⟩, hfr⟩ := hI
  obtain ⟨h, hh, rfl⟩ : ∃ h, L[j]? = some h ∧ h.r.id = x := by
    unfold idsL at hx
    rw [List.getElem?_map, Option.map_eq_some_iff] at hx
    exact hx
  have hma := midL_at (f := isInB s) hh
  have hms := midL_succ (f := isInB s) hh
  have hmn : (idsL (midL (isInB s) L j)).Nodup := (idsL_sub (midL_sub _ _ _)).nodup hnd
  have hmj : (midL (isInB s) L j)[(keepL (isInB s) (L.take j)).length]? = some h := by rw [hma]; simp
  have hfx := findH_at hmn hmj
  have hk1 : (getM w'.kr h.r.id).getD recZ = .agg h.r.cs := by rw [q1.get]; unfold recF; rw [hfx]; rfl
  have hk2 : (getM w'.ks h.r.id).getD (iv 0) = iv (if h.sm then 1 else 0) := by rw [q2.get]; unfold smF; rw [hfx]; cases e : h.sm <;> simp [e]
  have hby : (if (if h.sm then (1 : Int) else 0) > 0 then h.r.pk else h.r.size) = h.bytes := by unfold Hd.bytes; cases e : h.sm <;> simp
  have hs1 := sumH_in (midL (isInB s) L j) (fun y hy => hok y ((midL_sub _ _ _).subset hy))
  have hs2 := (midL_sub (isInB s) L j).length_le
  have hokh := hok h (List.mem_of_getElem? hh)
  have hbd : 1 ≤ h.bytes ∧ h.bytes ≤ 16777216 := by
    simp only [Item.ok] at hokh
    unfold Hd.bytes; split <;> omega
  have hA := ack1_ok hR s ex hc hm h.r.id h.r (if h.sm then 1 else 0) hk1 hk2 (by rw [hby, h4]; omega)
  rw [hby] at hA
  refine ACalls.mono hA fun v1 K1 ⟨hv, ht, hf⟩ => ⟨hv, ?_, ?_⟩
  · cases e : isInB s h.r.id with
    | true =>
      have := (ht e).2
      exact this.old b (Nat.lt_of_lt_of_le hF.2.1 hfr.len) hF.2.2.1 hF.2.2.2.1 hF.2.2.2.2.1 hF.2.2.2.2.2
    | false => rw [hf e]
  · cases e : isInB s h.r.id with
    | true =>
      obtain ⟨hR1, hF1⟩ := ht e
      rw [e, if_pos rfl] at hms
      rw [hma] at q1 q2 q3 h4 hmn
      rw [sumH_mid] at h4
      refine ⟨⟨_, hR1, h1, h2, h3, ?_, ?_, ?_, ?_⟩, hfr.trans hF1⟩
      · rw [hms]; show w'.used - h.bytes = _; omega
      · rw [hms]; exact q1.del _ fun y => by unfold recF; rw [findH_mid y _ _ hmn]; split <;> rfl
      · rw [hms]; exact q2.del _ fun y => by unfold smF; rw [findH_mid y _ _ hmn]; split <;> rfl
      · rw [hms]; exact q3.del _ fun y => by unfold stF; rw [findH_mid y _ _ hmn]; split <;> rfl
    | false =>
      rw [e, if_neg (by simp)] at hms
      rw [hf e]
      refine ⟨⟨w', hR, h1, h2, h3, ?_, ?_, ?_, ?_⟩, hfr⟩ <;> rw [hms] <;> assumption

theorem AI.setRow {H : Hp} {F : Ft} {w : Rw} {f : Int → Bool} {L : List Hd} {b m : Nat} (ho : w.ord = .msl b 0 m) (hF : b ≠ F.b ∧ b ≠ F.r ∧ b ≠ F.s ∧ b ≠ F.t) (j : Nat) (K : Hp) (c : AObj) (h : AI H F w f L j K) : AI H F w f L j (K.set b c) := by
  obtain ⟨⟨w', hR, h⟩, hfr⟩ := h
  refine ⟨⟨w', ⟨?_, ?_, ?_, ?_, hR.rs, hR.rt, hR.st⟩, h⟩, ⟨by rw [List.length_set]; exact hfr.len, fun i hi a1 a2 a3 a4 a5 => ?_⟩⟩
  · rw [List.getElem?_set_ne hF.1]; exact hR.hb
  · rw [List.getElem?_set_ne hF.2.1]; exact hR.hr
  · rw [List.getElem?_set_ne hF.2.2.1]; exact hR.hs
  · rw [List.getElem?_set_ne hF.2.2.2]; exact hR.ht
  · rw [List.getElem?_set_ne (fun e => a5 m (by rw [ho, e]))]; exact hfr.old i hi a1 a2 a3 a4 a5

set_option maxRecDepth 8000 in
theorem index_nil (H : Hp) (f : FuncId) (cap : List AV) : CallsTo Try.prog 98 [nilS, .fn (.func f) cap] H (iv (-1)) H := by
  refine ACalls.of_body Try.func98 rfl (by kernel_rfl) (by rw [Try.ntmps98]; simp) ?_; rw [Try.ntmps98]
  repeat' (first | refine spD (fun _ => ?_) (fun _ => ?_) | refine spF (fun _ => ?_) (fun _ => ?_) | (apply gT; (exact rfl)) | (apply off; (exact rfl); (exact rfl)) | (apply condT; (exact rfl)) | (apply condF; (exact rfl)) | ((first | (apply stp0; (exact rfl); (exact rfl)) | (apply stpN0; (exact rfl)) | apply gT | apply condT | ((first | apply bodyQ_d0 | apply bodyQ_d1 | apply bodyQ_d2 | apply bodyQ_d3 | apply bodyQ_d4); (exact .inr rfl); (rw [Try.results98]))); (first | (focus (simp only [go_sem, ↓reduceIte, simprocAttr] <;> rfl)) | exact rfl); (first | (fail_if_success (show okD _ _ _ _ _ _ _ _ _)) | (first | exact okT | exact okN | exact okE rfl)); (first | (fail_if_success (show Bel _ _)) | (focus first | exact .val _ | (simp [oneOf, Bel_iff_tup, Bel_iff_agg, Bel_iff_rsl, Bel_iff_fn, Bel_iff_rptr, Bel_val]; done)))) | refine thenQ_n ?_ | refine thenQ_r ?_ | refine thenQ_e ?_ | refine blockQ_n ?_ | refine blockQ_r ?_ | refine blockQ_e ?_ | (apply blockQ_o; (exact rfl)) | refine Awp.seq ?_ | refine Awp.skip ?_ | refine Awp.block ?_ | refine reg (fun s => false) ?_ | (apply drwE mixed (fun s => false); (kernel_rfl)) | refine fin ?_ | refine Awp.ret ?_ | refine Awp.exit ?_ | ((first | (apply off; (exact rfl)) | apply condF); (first | (focus (simp only [go_sem, ↓reduceIte, simprocAttr] <;> rfl)) | exact rfl)))
  refine Awp.loop (ι := Nat) (fun _ T' K => T' 8 = iv 0 ∧ T' 7 = iv 0 ∧ K = H) (fun m => m) 0 ?_ ?_
  · refine ⟨?_, ?_, rfl⟩
    · (first | (focus (simp only [go_sem, ↓reduceIte, simprocAttr]; first | done | rfl)) | rfl)
    · (first | (focus (simp only [go_sem, ↓reduceIte, simprocAttr]; first | done | rfl)) | rfl)
  rintro m T K ⟨t8, t7, hK⟩
  rw [hK]
  repeat' (first | refine spD (fun _ => ?_) (fun _ => ?_) | refine spF (fun _ => ?_) (fun _ => ?_) | (apply gT; (exact rfl)) | (apply off; (exact rfl); (exact rfl)) | (apply condT; (exact rfl)) | (apply condF; (exact rfl)) | ((first | (apply stp0; (exact rfl); (exact rfl)) | (apply stpN0; (exact rfl)) | apply gT | apply condT | ((first | apply bodyQ_d0 | apply bodyQ_d1 | apply bodyQ_d2 | apply bodyQ_d3 | apply bodyQ_d4); (exact .inr rfl); (rw [Try.results98]))); (first | (focus (simp only [go_sem, ↓reduceIte, simprocAttr, t8, t7] <;> rfl)) | exact rfl); (first | (fail_if_success (show okD _ _ _ _ _ _ _ _ _)) | (first | exact okT | exact okN | exact okE rfl)); (first | (fail_if_success (show Bel _ _)) | (focus first | exact .val _ | (simp [oneOf, Bel_iff_tup, Bel_iff_agg, Bel_iff_rsl, Bel_iff_fn, Bel_iff_rptr, Bel_val]; done)))) | refine thenQ_n ?_ | refine thenQ_r ?_ | refine thenQ_e ?_ | refine blockQ_n ?_ | refine blockQ_r ?_ | refine blockQ_e ?_ | (apply blockQ_o; (exact rfl)) | refine Awp.seq ?_ | refine Awp.skip ?_ | refine Awp.block ?_ | refine reg (fun s => false) ?_ | (apply drwE mixed (fun s => false); (kernel_rfl)) | refine fin ?_ | refine Awp.ret ?_ | refine Awp.exit ?_ | ((first | (apply off; (exact rfl)) | apply condF); (first | (focus (simp only [go_sem, ↓reduceIte, simprocAttr, t8, t7] <;> rfl)) | exact rfl)))
  all_goals first | contradiction | (exfalso; omega) | rfl | skip
set_option maxRecDepth 8000 in
theorem delete_nil (H : Hp) (f : FuncId) (cap : List AV) : CallsTo Try.prog 66 [nilS, .fn (.func f) cap] H nilS H := by
  have hi := index_nil H f cap
  refine ACalls.of_body Try.func66 rfl (by kernel_rfl) (by rw [Try.ntmps66]; simp) ?_; rw [Try.ntmps66]
  repeat' (first | refine spD (fun _ => ?_) (fun _ => ?_) | refine spF (fun _ => ?_) (fun _ => ?_) | (apply gT; (exact rfl)) | (apply off; (exact rfl); (exact rfl)) | (apply condT; (exact rfl)) | (apply condF; (exact rfl)) | ((first | (apply stp0; (exact rfl); (exact rfl)) | (apply stpN0; (exact rfl)) | apply gT | apply condT | ((first | apply bodyQ_d0 | apply bodyQ_d1 | apply bodyQ_d2 | apply bodyQ_d3 | apply bodyQ_d4); (exact .inr rfl); (rw [Try.results66]))); (first | (focus (simp only [go_sem, ↓reduceIte, simprocAttr] <;> rfl)) | exact rfl); (first | (fail_if_success (show okD _ _ _ _ _ _ _ _ _)) | (first | exact okT | exact okN | exact okE rfl)); (first | (fail_if_success (show Bel _ _)) | (focus first | exact .val _ | (simp [oneOf, Bel_iff_tup, Bel_iff_agg, Bel_iff_rsl, Bel_iff_fn, Bel_iff_rptr, Bel_val]; done)))) | (apply calTo0; (exact rfl); (iterate 2 (simp only [go_sem, ↓reduceIte, simprocAttr]; rfl)); (first | exact hi); (first | exact okT | exact okN | exact okE rfl)) | refine thenQ_n ?_ | refine thenQ_r ?_ | refine thenQ_e ?_ | refine blockQ_n ?_ | refine blockQ_r ?_ | refine blockQ_e ?_ | (apply blockQ_o; (exact rfl)) | refine Awp.seq ?_ | refine Awp.skip ?_ | refine Awp.block ?_ | refine reg (fun s => false) ?_ | (apply drwE mixed (fun s => false); (kernel_rfl)) | refine fin ?_ | refine Awp.ret ?_ | refine Awp.exit ?_ | ((first | (apply off; (exact rfl)) | apply condF); (first | (focus (simp only [go_sem, ↓reduceIte, simprocAttr] <;> rfl)) | exact rfl)))
  all_goals first | contradiction | (exfalso; omega) | rfl | skip

set_option maxRecDepth 8000 in
theorem index_emp (H : Hp) (f : FuncId) (cap : List AV) : CallsTo Try.prog 98 [.rsl [] true, .fn (.func f) cap] H (iv (-1)) H := by
  refine ACalls.of_body Try.func98 rfl (by kernel_rfl) (by rw [Try.ntmps98]; simp) ?_; rw [Try.ntmps98]
  repeat' (first | refine spD (fun _ => ?_) (fun _ => ?_) | refine spF (fun _ => ?_) (fun _ => ?_) | (apply gT; (exact rfl)) | (apply off; (exact rfl); (exact rfl)) | (apply condT; (exact rfl)) | (apply condF; (exact rfl)) | ((first | (apply stp0; (exact rfl); (exact rfl)) | (apply stpN0; (exact rfl)) | apply gT | apply condT | ((first | apply bodyQ_d0 | apply bodyQ_d1 | apply bodyQ_d2 | apply bodyQ_d3 | apply bodyQ_d4); (exact .inr rfl); (rw [Try.results98]))); (first | (focus (simp only [go_sem, ↓reduceIte, simprocAttr] <;> rfl)) | exact rfl); (first | (fail_if_success (show okD _ _ _ _ _ _ _ _ _)) | (first | exact okT | exact okN | exact okE rfl)); (first | (fail_if_success (show Bel _ _)) | (focus first | exact .val _ | (simp [oneOf, Bel_iff_tup, Bel_iff_agg, Bel_iff_rsl, Bel_iff_fn, Bel_iff_rptr, Bel_val]; done)))) | refine thenQ_n ?_ | refine thenQ_r ?_ | refine thenQ_e ?_ | refine blockQ_n ?_ | refine blockQ_r ?_ | refine blockQ_e ?_ | (apply blockQ_o; (exact rfl)) | refine Awp.seq ?_ | refine Awp.skip ?_ | refine Awp.block ?_ | refine reg (fun s => false) ?_ | (apply drwE mixed (fun s => false); (kernel_rfl)) | refine fin ?_ | refine Awp.ret ?_ | refine Awp.exit ?_ | ((first | (apply off; (exact rfl)) | apply condF); (first | (focus (simp only [go_sem, ↓reduceIte, simprocAttr] <;> rfl)) | exact rfl)))
  refine Awp.loop (ι := Nat) (fun _ T' K => T' 8 = iv 0 ∧ T' 7 = iv 0 ∧ K = H) (fun m => m) 0 ?_ ?_
  · refine ⟨?_, ?_, rfl⟩
    · (first | (focus (simp only [go_sem, ↓reduceIte, simprocAttr]; first | done | rfl)) | rfl)
    · (first | (focus (simp only [go_sem, ↓reduceIte, simprocAttr]; first | done | rfl)) | rfl)
  rintro m T K ⟨t8, t7, hK⟩
  rw [hK]
  repeat' (first | refine spD (fun _ => ?_) (fun _ => ?_) | refine spF (fun _ => ?_) (fun _ => ?_) | (apply gT; (exact rfl)) | (apply off; (exact rfl); (exact rfl)) | (apply condT; (exact rfl)) | (apply condF; (exact rfl)) | ((first | (apply stp0; (exact rfl); (exact rfl)) | (apply stpN0; (exact rfl)) | apply gT | apply condT | ((first | apply bodyQ_d0 | apply bodyQ_d1 | apply bodyQ_d2 | apply bodyQ_d3 | apply bodyQ_d4); (exact .inr rfl); (rw [Try.results98]))); (first | (focus (simp only [go_sem, ↓reduceIte, simprocAttr, t8, t7] <;> rfl)) | exact rfl); (first | (fail_if_success (show okD _ _ _ _ _ _ _ _ _)) | (first | exact okT | exact okN | exact okE rfl)); (first | (fail_if_success (show Bel _ _)) | (focus first | exact .val _ | (simp [oneOf, Bel_iff_tup, Bel_iff_agg, Bel_iff_rsl, Bel_iff_fn, Bel_iff_rptr, Bel_val]; done)))) | refine thenQ_n ?_ | refine thenQ_r ?_ | refine thenQ_e ?_ | refine blockQ_n ?_ | refine blockQ_r ?_ | refine blockQ_e ?_ | (apply blockQ_o; (exact rfl)) | refine Awp.seq ?_ | refine Awp.skip ?_ | refine Awp.block ?_ | refine reg (fun s => false) ?_ | (apply drwE mixed (fun s => false); (kernel_rfl)) | refine fin ?_ | refine Awp.ret ?_ | refine Awp.exit ?_ | ((first | (apply off; (exact rfl)) | apply condF); (first | (focus (simp only [go_sem, ↓reduceIte, simprocAttr, t8, t7] <;> rfl)) | exact rfl)))
  all_goals first | contradiction | (exfalso; omega) | rfl | skip
set_option maxRecDepth 8000 in
theorem delete_emp (H : Hp) (f : FuncId) (cap : List AV) : CallsTo Try.prog 66 [.rsl [] true, .fn (.func f) cap] H (.rsl [] true) H := by
  have hi := index_emp H f cap
  refine ACalls.of_body Try.func66 rfl (by kernel_rfl) (by rw [Try.ntmps66]; simp) ?_; rw [Try.ntmps66]
  repeat' (first | refine spD (fun _ => ?_) (fun _ => ?_) | refine spF (fun _ => ?_) (fun _ => ?_) | (apply gT; (exact rfl)) | (apply off; (exact rfl); (exact rfl)) | (apply condT; (exact rfl)) | (apply condF; (exact rfl)) | ((first | (apply stp0; (exact rfl); (exact rfl)) | (apply stpN0; (exact rfl)) | apply gT | apply condT | ((first | apply bodyQ_d0 | apply bodyQ_d1 | apply bodyQ_d2 | apply bodyQ_d3 | apply bodyQ_d4); (exact .inr rfl); (rw [Try.results66]))); (first | (focus (simp only [go_sem, ↓reduceIte, simprocAttr] <;> rfl)) | exact rfl); (first | (fail_if_success (show okD _ _ _ _ _ _ _ _ _)) | (first | exact okT | exact okN | exact okE rfl)); (first | (fail_if_success (show Bel _ _)) | (focus first | exact .val _ | (simp [oneOf, Bel_iff_tup, Bel_iff_agg, Bel_iff_rsl, Bel_iff_fn, Bel_iff_rptr, Bel_val]; done)))) | (apply calTo0; (exact rfl); (iterate 2 (simp only [go_sem, ↓reduceIte, simprocAttr]; rfl)); (first | exact hi); (first | exact okT | exact okN | exact okE rfl)) | refine thenQ_n ?_ | refine thenQ_r ?_ | refine thenQ_e ?_ | refine blockQ_n ?_ | refine blockQ_r ?_ | refine blockQ_e ?_ | (apply blockQ_o; (exact rfl)) | refine Awp.seq ?_ | refine Awp.skip ?_ | refine Awp.block ?_ | refine reg (fun s => false) ?_ | (apply drwE mixed (fun s => false); (kernel_rfl)) | refine fin ?_ | refine Awp.ret ?_ | refine Awp.exit ?_ | ((first | (apply off; (exact rfl)) | apply condF); (first | (focus (simp only [go_sem, ↓reduceIte, simprocAttr] <;> rfl)) | exact rfl)))
  all_goals first | contradiction | (exfalso; omega) | rfl | skip

/-- what DeleteFunc does to a buffer -/
structure AckD (H : Hp) (F : Ft) (w : Rw) (S : Bf) (f : Int → Bool) (v1 : AV) (K1 : Hp) : Prop where
  st : AI H F w f S.L S.L.length K1
  ord : OrdAt K1 v1 (idsL (keepL f S.L))
  row : ∀ o m, v1 = .msl o 0 m → ∃ m', w.ord = .msl o 0 m'

theorem del_ok {H : Hp} {F : Ft} {w : Rw} {S : Bf} (hR : Rep H F w S) (hg : Good S) (s : List (Int × Int)) (ex : Bool) (hc : setC s = 0) (hm : s.length ≤ maxLen) :
    ACalls Try.prog 66 [w.ord, .fn (.func 67) [.rptr [.rsl (sps s) ex] 0, .rptr [.mptr F.b 0 0] 0]] H (AckD H F w S (isInB s)) := by
  have h0 : AI H F w (isInB s) S.L 0 H := ⟨⟨w, hR.raw, rfl, rfl, rfl, by rw [midL_zero, hR.used, hg.sum]; rfl, by rw [midL_zero]; exact hR.mr, by rw [midL_zero]; exact hR.ms, by rw [midL_zero]; exact hR.mt⟩, ⟨Nat.le_refl _, fun _ _ _ _ _ _ _ => rfl⟩⟩
  have hlm := hg.len
  have hO := hR.ord
  have hkid := keepL_ids (isInB s) S.L
  obtain ⟨ids, hids⟩ : ∃ ids, ids = idsL S.L := ⟨_, rfl⟩
  have hil : ids.length = S.L.length := by rw [hids]; simp [idsL]
  have hA := fun b hF => AI.asks (H := H) (w := w) (ex := ex) hc hm hg.nd hg.ok hg.len (b := b) (F := F) hF
  rw [← hids] at hO hkid hA
  obtain ⟨ord, hord⟩ : ∃ ord, ord = w.ord := ⟨_, rfl⟩
  rw [← hord] at hO ⊢
  cases hO with
  | nil =>
    have hL : S.L = [] := List.eq_nil_of_length_eq_zero (by rw [← hil]; rfl)
    refine ACalls.mono (delete_nil H _ _) fun v1 K1 ⟨e1, e2⟩ => ?_
    subst e1 e2
    refine ⟨by rw [hL] at h0 ⊢; exact h0, by rw [hkid]; exact .nil, fun o m e => by cases e⟩
  | emp =>
    have hL : S.L = [] := List.eq_nil_of_length_eq_zero (by rw [← hil]; rfl)
    refine ACalls.mono (delete_emp H _ _) fun v1 K1 ⟨e1, e2⟩ => ?_
    subst e1 e2
    refine ⟨by rw [hL] at h0 ⊢; exact h0, by rw [hkid]; exact .emp, fun o m e => by cases e⟩
  | row hb hn h0v =>
    rename_i o n v
    obtain ⟨l1, l2, l3, l4⟩ := hR.raw.lt
    have hne : o ≠ F.b ∧ o ≠ F.r ∧ o ≠ F.s ∧ o ≠ F.t := by
      refine ⟨fun e => ?_, fun e => ?_, fun e => ?_, fun e => ?_⟩ <;> subst e
      · have := hR.raw.hb; rw [hb] at this; simp at this
      · have := hR.raw.hr; rw [hb] at this; simp at this
      · have := hR.raw.hs; rw [hb] at this; simp at this
      · have := hR.raw.ht; rw [hb] at this; simp at this
    have hnl : n = S.L.length := by rw [← hil, List.length_take]; omega
    refine ACalls.mono (deleteI_ok hb hn (by simp only [maxLen]; omega) (hA o ⟨rfl, (List.getElem?_eq_some_iff.1 hb).1, hne⟩) (fun j K c h => AI.setRow hord.symm hne j K c h) h0) fun v1 K1 ⟨u', e1, hb1, hul, hut, hI⟩ => ?_
    refine ⟨by rw [← hnl]; exact hI, ?_, fun o' m e => ?_⟩
    · have hle : (keepI (isInB s) (v.take n)).length ≤ (v.take n).length := List.length_filter_le _ _
      rw [List.length_take] at hle
      have := OrdAt.row hb1 (show (keepI (isInB s) (v.take n)).length ≤ u'.length by omega) (by omega)
      rw [hkid, e1]
      rwa [hut] at this
    · rw [e1] at e; cases e; exact ⟨n, hord.symm⟩

end Go.Proofs.Ytlhchnnfgppneaa.Ab
namespace Go.Proofs.Ytlhchnnfgppneaa.Ab
open Go Go.RowKit Go.Proofs
set_option linter.unusedSimpArgs false
set_option linter.unusedVariables false
attribute [local irreducible] Awp wpO thenQ blockQ bodyQ ACalls stepA

set_option maxRecDepth 8000 in
theorem due_ok (H : Hp) (b : Nat) (t wt : Int) : CallsTo Try.prog 62 [.mptr b 0 0, iv t, iv wt] H (.fn (.func 97) [.rptr [.mptr b 0 0] 0, .rptr [iv t] 0, .rptr [iv wt] 0]) H := by
  refine ACalls.of_body Try.func62 rfl (by kernel_rfl) (by rw [Try.ntmps62]; simp) ?_; rw [Try.ntmps62]
  repeat' (first | refine spD (fun _ => ?_) (fun _ => ?_) | refine spF (fun _ => ?_) (fun _ => ?_) | (apply gT; (exact rfl)) | (apply off; (exact rfl); (exact rfl)) | (apply condT; (exact rfl)) | (apply condF; (exact rfl)) | ((first | (apply stp0; (exact rfl); (exact rfl)) | (apply stpN0; (exact rfl)) | apply gT | apply condT); (first | (focus (simp only [go_sem, ↓reduceIte, simprocAttr] <;> rfl)) | exact rfl); (first | (fail_if_success (show okD _ _ _ _ _ _ _ _ _)) | (first | exact okT | exact okN | exact okE rfl))) | refine thenQ_n ?_ | refine thenQ_r ?_ | refine thenQ_e ?_ | refine blockQ_n ?_ | refine blockQ_r ?_ | refine blockQ_e ?_ | (apply blockQ_o; (exact rfl)) | refine Awp.seq ?_ | refine Awp.skip ?_ | refine Awp.block ?_ | refine reg (fun s => false) ?_ | (apply drwE mixed (fun s => false); (kernel_rfl)) | refine fin ?_ | refine Awp.ret ?_ | refine Awp.exit ?_ | ((first | (apply off; (exact rfl)) | apply condF); (first | (focus (simp only [go_sem, ↓reduceIte, simprocAttr] <;> rfl)) | exact rfl)))
  all_goals first | rfl | contradiction | (exfalso; omega) | skip
  exact bodyQ_mk (.inr rfl) (by rw [Try.results62]; simp only [go_sem, ↓reduceIte, simprocAttr]; rfl) (Vs.refl _ _ _) ⟨rfl, rfl⟩

def snt (L : List Hd) (x : Int) : Int := match findH L x with
  | some h => h.sent
  | none => -1
def dueB (t wt : Int) (h : Hd) : Bool := decide (h.sent = -1) || decide (h.sent ≤ t - wt)

set_option maxRecDepth 8000 in
set_option maxHeartbeats 4000000 in
theorem dueLoop {F : Ft} {w : Rw} {S : Bf} (b : Nat) (t wt : Int) (ht : 0 ≤ t ∧ t ≤ 1073741824) (hwt : 0 ≤ wt ∧ wt ≤ 1073741824) (hg : Good S) (hmt : MapIs w.kt (stF S.L)) (I : Nat → Hp → Prop)
    (hO : ∀ j H, I j H → H[F.b]? = some (.cells [w.cs F] 109) ∧ H[F.t]? = some (.amap (ents w.kt)) ∧ OrdAt H w.ord (idsL S.L))
    (hy : ∀ (j : Nat) (h : Hd) (H : Hp), S.L[j]? = some h → dueB t wt h = true → I j H → AYield Try.prog b [iv h.r.id] H (fun v1 H1 => v1 = bv true ∧ I (j + 1) H1))
    (hs : ∀ (j : Nat) (h : Hd) (H : Hp), S.L[j]? = some h → dueB t wt h = false → I j H → I (j + 1) H) (H : Hp) (h0 : I 0 H) :
    ACalls Try.prog 97 [.fn (.yield b) [], .rptr [.mptr F.b 0 0] 0, .rptr [iv t] 0, .rptr [iv wt] 0] H fun _ H' => I S.L.length H' := by
  have hil : (idsL S.L).length = S.L.length := by simp [idsL]
  have hb := (hO 0 H h0).1
  simp only [Rw.cs] at hb
  have hor := (hO 0 H h0).2.2
  have hlm : S.L.length ≤ maxLen := by have := hg.len; simp only [maxLen]; omega
  have w1 : IntKind.i64.wrap (t - wt) = t - wt := w64 (by omega) (by omega)
  have hbk : ∀ j H, I j H → H[F.b]? = some (.cells [[iv w.cap, iv w.used, iv w.time, w.ord, .mp F.r, .mp F.s, .mp F.t]] 109) := fun j H h => (hO j H h).1
  have hok : ∀ j H, I j H → OrdAt H w.ord (idsL S.L) := fun j H h => (hO j H h).2.2
  have htk : ∀ j H, I j H → H[F.t]? = some (.amap (ents w.kt)) := fun j H h => (hO j H h).2.1
  clear hO
  obtain ⟨ids, hids⟩ : ∃ ids, ids = idsL S.L := ⟨_, rfl⟩
  obtain ⟨ord, hord⟩ : ∃ ord, ord = w.ord := ⟨_, rfl⟩
  rw [← hids] at hor hil hok
  rw [← hord] at hor hok hb hbk
  cases hor with
  | nil =>
    have hl0 : S.L.length = 0 := by rw [← hil]; rfl
    refine ACalls.of_body Try.func97 rfl (by kernel_rfl) (by rw [Try.ntmps97]; simp) ?_; rw [Try.ntmps97]
    repeat' (first | refine spD (fun _ => ?_) (fun _ => ?_) | refine spF (fun _ => ?_) (fun _ => ?_) | (apply gT; (exact rfl)) | (apply off; (exact rfl); (exact rfl)) | (apply condT; (exact rfl)) | (apply condF; (exact rfl)) | ((first | (apply stp0; (exact rfl); (exact rfl)) | (apply stpN0; (exact rfl)) | apply gT | apply condT | ((first | apply bodyQ_d0 | apply bodyQ_d1 | apply bodyQ_d2 | apply bodyQ_d3 | apply bodyQ_d4); (exact .inr rfl); (rw [Try.results97]))); (first | (focus (simp only [go_sem, ↓reduceIte, simprocAttr, hb] <;> rfl)) | exact rfl); (first | (fail_if_success (show okD _ _ _ _ _ _ _ _ _)) | (first | exact okT | exact okN | exact okE rfl)); (first | (fail_if_success (show Bel _ _)) | (focus first | exact .val _ | (simp [oneOf, Bel_iff_tup, Bel_iff_agg, Bel_iff_rsl, Bel_iff_fn, Bel_iff_rptr, Bel_val]; done)))) | refine thenQ_n ?_ | refine thenQ_r ?_ | refine thenQ_e ?_ | refine blockQ_n ?_ | refine blockQ_r ?_ | refine blockQ_e ?_ | (apply blockQ_o; (exact rfl)) | refine Awp.seq ?_ | refine Awp.skip ?_ | refine Awp.block ?_ | refine reg (fun s => false) ?_ | (apply drwE mixed (fun s => false); (kernel_rfl)) | refine fin ?_ | refine Awp.ret ?_ | refine Awp.exit ?_ | ((first | (apply off; (exact rfl)) | apply condF); (first | (focus (simp only [go_sem, ↓reduceIte, simprocAttr, hb] <;> rfl)) | exact rfl)))
    all_goals first | contradiction | (exfalso; omega) | skip
    refine Awp.loop (ι := Nat) (fun i T' H' => T' 13 = iv 0 ∧ T' 14 = iv 0 ∧ H' = H) (fun i => i) 0 ?_ ?_
    · refine ⟨?_, ?_, rfl⟩
      · (first | (focus (simp only [go_sem, ↓reduceIte, simprocAttr]; first | done | rfl)) | rfl)
      · (first | (focus (simp only [go_sem, ↓reduceIte, simprocAttr]; first | done | rfl)) | rfl)
    rintro i T K ⟨t13, t14, hK⟩
    rw [hK]
    repeat' (first | refine spD (fun _ => ?_) (fun _ => ?_) | refine spF (fun _ => ?_) (fun _ => ?_) | (apply gT; (exact rfl)) | (apply off; (exact rfl); (exact rfl)) | (apply condT; (exact rfl)) | (apply condF; (exact rfl)) | ((first | (apply stp0; (exact rfl); (exact rfl)) | (apply stpN0; (exact rfl)) | apply gT | apply condT | ((first | apply bodyQ_d0 | apply bodyQ_d1 | apply bodyQ_d2 | apply bodyQ_d3 | apply bodyQ_d4); (exact .inr rfl); (rw [Try.results97]))); (first | (focus (simp only [go_sem, ↓reduceIte, simprocAttr, Int.lt_irrefl, t13, t14] <;> rfl)) | exact rfl); (first | (fail_if_success (show okD _ _ _ _ _ _ _ _ _)) | (first | exact okT | exact okN | exact okE rfl)); (first | (fail_if_success (show Bel _ _)) | (focus first | exact .val _ | (simp [oneOf, Bel_iff_tup, Bel_iff_agg, Bel_iff_rsl, Bel_iff_fn, Bel_iff_rptr, Bel_val]; done)))) | refine thenQ_n ?_ | refine thenQ_r ?_ | refine thenQ_e ?_ | refine blockQ_n ?_ | refine blockQ_r ?_ | refine blockQ_e ?_ | (apply blockQ_o; (exact rfl)) | refine Awp.seq ?_ | refine Awp.skip ?_ | refine Awp.block ?_ | refine reg (fun s => false) ?_ | (apply drwE mixed (fun s => false); (kernel_rfl)) | refine fin ?_ | refine Awp.ret ?_ | refine Awp.exit ?_ | ((first | (apply off; (exact rfl)) | apply condF); (first | (focus (simp only [go_sem, ↓reduceIte, simprocAttr, Int.lt_irrefl, t13, t14] <;> rfl)) | exact rfl)))
    all_goals first | contradiction | (exfalso; omega) | skip
    exact bodyQ_eq (.inl rfl) (by rw [Try.results97]; simp only [go_sem, ↓reduceIte, simprocAttr]; rfl) (by rw [hl0]; exact h0)
  | emp =>
    have hl0 : S.L.length = 0 := by rw [← hil]; rfl
    refine ACalls.of_body Try.func97 rfl (by kernel_rfl) (by rw [Try.ntmps97]; simp) ?_; rw [Try.ntmps97]
    repeat' (first | refine spD (fun _ => ?_) (fun _ => ?_) | refine spF (fun _ => ?_) (fun _ => ?_) | (apply gT; (exact rfl)) | (apply off; (exact rfl); (exact rfl)) | (apply condT; (exact rfl)) | (apply condF; (exact rfl)) | ((first | (apply stp0; (exact rfl); (exact rfl)) | (apply stpN0; (exact rfl)) | apply gT | apply condT | ((first | apply bodyQ_d0 | apply bodyQ_d1 | apply bodyQ_d2 | apply bodyQ_d3 | apply bodyQ_d4); (exact .inr rfl); (rw [Try.results97]))); (first | (focus (simp only [go_sem, ↓reduceIte, simprocAttr, hb] <;> rfl)) | exact rfl); (first | (fail_if_success (show okD _ _ _ _ _ _ _ _ _)) | (first | exact okT | exact okN | exact okE rfl)); (first | (fail_if_success (show Bel _ _)) | (focus first | exact .val _ | (simp [oneOf, Bel_iff_tup, Bel_iff_agg, Bel_iff_rsl, Bel_iff_fn, Bel_iff_rptr, Bel_val]; done)))) | refine thenQ_n ?_ | refine thenQ_r ?_ | refine thenQ_e ?_ | refine blockQ_n ?_ | refine blockQ_r ?_ | refine blockQ_e ?_ | (apply blockQ_o; (exact rfl)) | refine Awp.seq ?_ | refine Awp.skip ?_ | refine Awp.block ?_ | refine reg (fun s => false) ?_ | (apply drwE mixed (fun s => false); (kernel_rfl)) | refine fin ?_ | refine Awp.ret ?_ | refine Awp.exit ?_ | ((first | (apply off; (exact rfl)) | apply condF); (first | (focus (simp only [go_sem, ↓reduceIte, simprocAttr, hb] <;> rfl)) | exact rfl)))
    all_goals first | contradiction | (exfalso; omega) | skip
    refine Awp.loop (ι := Nat) (fun i T' H' => T' 13 = iv 0 ∧ T' 14 = iv 0 ∧ H' = H) (fun i => i) 0 ?_ ?_
    · refine ⟨?_, ?_, rfl⟩
      · (first | (focus (simp only [go_sem, ↓reduceIte, simprocAttr]; first | done | rfl)) | rfl)
      · (first | (focus (simp only [go_sem, ↓reduceIte, simprocAttr]; first | done | rfl)) | rfl)
    rintro i T K ⟨t13, t14, hK⟩
    rw [hK]
    repeat' (first | refine spD (fun _ => ?_) (fun _ => ?_) | refine spF (fun _ => ?_) (fun _ => ?_) | (apply gT; (exact rfl)) | (apply off; (exact rfl); (exact rfl)) | (apply condT; (exact rfl)) | (apply condF; (exact rfl)) | ((first | (apply stp0; (exact rfl); (exact rfl)) | (apply stpN0; (exact rfl)) | apply gT | apply condT | ((first | apply bodyQ_d0 | apply bodyQ_d1 | apply bodyQ_d2 | apply bodyQ_d3 | apply bodyQ_d4); (exact .inr rfl); (rw [Try.results97]))); (first | (focus (simp only [go_sem, ↓reduceIte, simprocAttr, Int.lt_irrefl, t13, t14] <;> rfl)) | exact rfl); (first | (fail_if_success (show okD _ _ _ _ _ _ _ _ _)) | (first | exact okT | exact okN | exact okE rfl)); (first | (fail_if_success (show Bel _ _)) | (focus first | exact .val _ | (simp [oneOf, Bel_iff_tup, Bel_iff_agg, Bel_iff_rsl, Bel_iff_fn, Bel_iff_rptr, Bel_val]; done)))) | refine thenQ_n ?_ | refine thenQ_r ?_ | refine thenQ_e ?_ | refine blockQ_n ?_ | refine blockQ_r ?_ | refine blockQ_e ?_ | (apply blockQ_o; (exact rfl)) | refine Awp.seq ?_ | refine Awp.skip ?_ | refine Awp.block ?_ | refine reg (fun s => false) ?_ | (apply drwE mixed (fun s => false); (kernel_rfl)) | refine fin ?_ | refine Awp.ret ?_ | refine Awp.exit ?_ | ((first | (apply off; (exact rfl)) | apply condF); (first | (focus (simp only [go_sem, ↓reduceIte, simprocAttr, Int.lt_irrefl, t13, t14] <;> rfl)) | exact rfl)))
    all_goals first | contradiction | (exfalso; omega) | skip
    exact bodyQ_eq (.inl rfl) (by rw [Try.results97]; simp only [go_sem, ↓reduceIte, simprocAttr]; rfl) (by rw [hl0]; exact h0)
  | row hbv0 hn0 h00 =>
    rename_i o n v0
    have hnl : n = S.L.length := by rw [← hil, List.length_take, Nat.min_eq_left hn0]
    have hvl0 := ints_len v0
    refine ACalls.of_body Try.func97 rfl (by kernel_rfl) (by rw [Try.ntmps97]; simp) ?_; rw [Try.ntmps97]
    repeat' (first | refine spD (fun _ => ?_) (fun _ => ?_) | refine spF (fun _ => ?_) (fun _ => ?_) | (apply gT; (exact rfl)) | (apply off; (exact rfl); (exact rfl)) | (apply condT; (exact rfl)) | (apply condF; (exact rfl)) | ((first | (apply stp0; (exact rfl); (exact rfl)) | (apply stpN0; (exact rfl)) | apply gT | apply condT | ((first | apply bodyQ_d0 | apply bodyQ_d1 | apply bodyQ_d2 | apply bodyQ_d3 | apply bodyQ_d4); (exact .inr rfl); (rw [Try.results97]))); (first | (focus (simp only [go_sem, ↓reduceIte, simprocAttr, hb] <;> rfl)) | exact rfl); (first | (fail_if_success (show okD _ _ _ _ _ _ _ _ _)) | (first | exact okT | exact okN | exact okE rfl)); (first | (fail_if_success (show Bel _ _)) | (focus first | exact .val _ | (simp [oneOf, Bel_iff_tup, Bel_iff_agg, Bel_iff_rsl, Bel_iff_fn, Bel_iff_rptr, Bel_val]; done)))) | refine thenQ_n ?_ | refine thenQ_r ?_ | refine thenQ_e ?_ | refine blockQ_n ?_ | refine blockQ_r ?_ | refine blockQ_e ?_ | (apply blockQ_o; (exact rfl)) | refine Awp.seq ?_ | refine Awp.skip ?_ | refine Awp.block ?_ | refine reg (fun s => false) ?_ | (apply drwE mixed (fun s => false); (kernel_rfl)) | refine fin ?_ | refine Awp.ret ?_ | refine Awp.exit ?_ | ((first | (apply off; (exact rfl)) | apply condF); (first | (focus (simp only [go_sem, ↓reduceIte, simprocAttr, hb] <;> rfl)) | exact rfl)))
    all_goals first | contradiction | (exfalso; omega) | skip
    refine Awp.loop (ι := Nat) (fun i T' H' => i ≤ S.L.length ∧ (T' 0 = .fn (.yield b) [] ∧ T' 1 = .rptr [.mptr F.b 0 0] 0 ∧ T' 2 = .rptr [iv t] 0 ∧ T' 3 = .rptr [iv wt] 0 ∧ T' 12 = .msl o 0 n ∧ T' 13 = iv S.L.length ∧ T' 14 = iv i) ∧ I i H') (fun i => S.L.length - i) 0 ?_ ?_
    · refine ⟨Nat.zero_le _, ⟨?_, ?_, ?_, ?_, ?_, ?_, ?_⟩, h0⟩
      · rfl
      · rfl
      · rfl
      · rfl
      · (first | (focus (simp only [go_sem, ↓reduceIte, simprocAttr]; first | done | rfl)) | rfl)
      · rw [← hnl]; (first | (focus (simp only [go_sem, ↓reduceIte, simprocAttr]; first | done | rfl)) | rfl)
      · (first | (focus (simp only [go_sem, ↓reduceIte, simprocAttr]; first | done | rfl)) | rfl)
    clear hb hbv0 h0
    rintro i T K ⟨hi, ⟨t0, t1, t2, t3, t12, t13, t14⟩, hI⟩
    have hb := hbk i K hI
    have htm := htk i K hI
    obtain ⟨v, hbv, hnv, h0v, hidv⟩ := (hok i K hI).blk rfl
    have hvl := ints_len v
    by_cases hlt : i < S.L.length
    · obtain ⟨h, hh⟩ := nth hlt
      have hsu := wsucc hlt hlm
      have hin : i < n := by rw [hnl]; exact hlt
      have hfh := findH_at hg.nd hh
      have hvi : (ints v)[i]? = some [iv h.r.id] := by
        have h1 : (v.take n)[i]? = some h.r.id := by rw [← hidv, hids]; unfold idsL; rw [List.getElem?_map, hh]; rfl
        rw [List.getElem?_take, if_pos hin] at h1
        exact nthMap (fun x => [iv x]) h1
      have l3 : lookA Try.prog 107 (.mp F.t) (iv h.r.id) true K = some (if h.sent = -1 then .tup [iv 0, bv false] else .tup [iv h.sent, bv true]) := by
        rw [(mT107.look0 htm h.r.id).1, hmt.get]; unfold stF; rw [hfh]
        by_cases e : h.sent = -1 <;> simp [e]
      have hlt' := Int.ofNat_lt.2 hlt
      by_cases e : h.sent = -1
      · have hyj := hy i h K hh (by simp [dueB, e]) hI
        rw [if_pos e] at l3
        repeat' (first | refine spD (fun _ => ?_) (fun _ => ?_) | refine spF (fun _ => ?_) (fun _ => ?_) | (apply gT; (exact rfl)) | (apply off; (exact rfl); (exact rfl)) | (apply condT; (exact rfl)) | (apply condF; (exact rfl)) | ((first | (apply stp0; (exact rfl); (exact rfl)) | (apply stpN0; (exact rfl)) | apply gT | apply condT | ((first | apply bodyQ_d0 | apply bodyQ_d1 | apply bodyQ_d2 | apply bodyQ_d3 | apply bodyQ_d4); (exact .inr rfl); (rw [Try.results97]))); (first | (focus (simp only [go_sem, ↓reduceIte, simprocAttr, hlt', t0, t1, t2, t3, t12, t13, t14, hb, hbv, hvl, hvi, hin, Nat.zero_add, l3] <;> rfl)) | exact rfl); (first | (fail_if_success (show okD _ _ _ _ _ _ _ _ _)) | (first | exact okT | exact okN | exact okE rfl)); (first | (fail_if_success (show Bel _ _)) | (focus first | exact .val _ | (simp [oneOf, Bel_iff_tup, Bel_iff_agg, Bel_iff_rsl, Bel_iff_fn, Bel_iff_rptr, Bel_val]; done)))) | refine thenQ_n ?_ | refine thenQ_r ?_ | refine thenQ_e ?_ | refine blockQ_n ?_ | refine blockQ_r ?_ | refine blockQ_e ?_ | (apply blockQ_o; (exact rfl)) | refine Awp.seq ?_ | refine Awp.skip ?_ | refine Awp.block ?_ | refine reg (fun s => false) ?_ | (apply drwE mixed (fun s => false); (kernel_rfl)) | refine fin ?_ | refine Awp.ret ?_ | refine Awp.exit ?_ | ((first | (apply off; (exact rfl)) | apply condF); (first | (focus (simp only [go_sem, ↓reduceIte, simprocAttr, hlt', t0, t1, t2, t3, t12, t13, t14, hb, hbv, hvl, hvi, hin, Nat.zero_add, l3] <;> rfl)) | exact rfl)))
        all_goals first | contradiction | (exfalso; omega) | skip
        refine cal rfl rfl ?_ ?_ (show ACallV Try.prog (.fn (.yield b) []) [iv h.r.id] K _ from hyj) ?_
        · (first | (focus (simp only [go_sem, ↓reduceIte, simprocAttr, t0]; first | done | rfl)) | rfl)
        · (first | (focus (simp only [go_sem, ↓reduceIte, simprocAttr]; first | done | rfl)) | rfl)
        rintro v1 H2 ⟨rfl, hI2⟩
        repeat' (first | refine spD (fun _ => ?_) (fun _ => ?_) | refine spF (fun _ => ?_) (fun _ => ?_) | (apply gT; (exact rfl)) | (apply off; (exact rfl); (exact rfl)) | (apply condT; (exact rfl)) | (apply condF; (exact rfl)) | ((first | (apply stp0; (exact rfl); (exact rfl)) | (apply stpN0; (exact rfl)) | apply gT | apply condT | ((first | apply bodyQ_d0 | apply bodyQ_d1 | apply bodyQ_d2 | apply bodyQ_d3 | apply bodyQ_d4); (exact .inr rfl); (rw [Try.results97]))); (first | (focus (simp only [go_sem, ↓reduceIte, simprocAttr, t14, hsu] <;> rfl)) | exact rfl); (first | (fail_if_success (show okD _ _ _ _ _ _ _ _ _)) | (first | exact okT | exact okN | exact okE rfl)); (first | (fail_if_success (show Bel _ _)) | (focus first | exact .val _ | (simp [oneOf, Bel_iff_tup, Bel_iff_agg, Bel_iff_rsl, Bel_iff_fn, Bel_iff_rptr, Bel_val]; done)))) | refine thenQ_n ?_ | refine thenQ_r ?_ | refine thenQ_e ?_ | refine blockQ_n ?_ | refine blockQ_r ?_ | refine blockQ_e ?_ | (apply blockQ_o; (exact rfl)) | refine Awp.seq ?_ | refine Awp.skip ?_ | refine Awp.block ?_ | refine reg (fun s => false) ?_ | (apply drwE mixed (fun s => false); (kernel_rfl)) | refine fin ?_ | refine Awp.ret ?_ | refine Awp.exit ?_ | ((first | (apply off; (exact rfl)) | apply condF); (first | (focus (simp only [go_sem, ↓reduceIte, simprocAttr, t14, hsu] <;> rfl)) | exact rfl)))
        all_goals first | contradiction | (exfalso; omega) | skip
        refine ⟨i + 1, ⟨hlt, ⟨?_, ?_, ?_, ?_, ?_, ?_, ?_⟩, hI2⟩, Nat.sub_lt_sub_left hlt (Nat.lt_succ_self i)⟩
        · (first | (focus (simp only [go_sem, ↓reduceIte, simprocAttr, t0]; first | done | rfl)) | rfl)
        · (first | (focus (simp only [go_sem, ↓reduceIte, simprocAttr, t1]; first | done | rfl)) | rfl)
        · (first | (focus (simp only [go_sem, ↓reduceIte, simprocAttr, t2]; first | done | rfl)) | rfl)
        · (first | (focus (simp only [go_sem, ↓reduceIte, simprocAttr, t3]; first | done | rfl)) | rfl)
        · (first | (focus (simp only [go_sem, ↓reduceIte, simprocAttr, t12]; first | done | rfl)) | rfl)
        · (first | (focus (simp only [go_sem, ↓reduceIte, simprocAttr, t13]; first | done | rfl)) | rfl)
        · (first | (focus (simp only [go_sem, ↓reduceIte, simprocAttr, hsu]; first | done | rfl)) | rfl)
      · rw [if_neg e] at l3
        by_cases e2 : h.sent > t - wt
        · have hI2 := hs i h K hh (by simp [dueB, e]; omega) hI
          repeat' (first | refine spD (fun _ => ?_) (fun _ => ?_) | refine spF (fun _ => ?_) (fun _ => ?_) | (apply gT; (exact rfl)) | (apply off; (exact rfl); (exact rfl)) | (apply condT; (exact rfl)) | (apply condF; (exact rfl)) | ((first | (apply stp0; (exact rfl); (exact rfl)) | (apply stpN0; (exact rfl)) | apply gT | apply condT | ((first | apply bodyQ_d0 | apply bodyQ_d1 | apply bodyQ_d2 | apply bodyQ_d3 | apply bodyQ_d4); (exact .inr rfl); (rw [Try.results97]))); (first | (focus (simp only [go_sem, ↓reduceIte, simprocAttr, hlt', t0, t1, t2, t3, t12, t13, t14, hb, hbv, hvl, hvi, hin, Nat.zero_add, l3, w1, e2, hsu] <;> rfl)) | exact rfl); (first | (fail_if_success (show okD _ _ _ _ _ _ _ _ _)) | (first | exact okT | exact okN | exact okE rfl)); (first | (fail_if_success (show Bel _ _)) | (focus first | exact .val _ | (simp [oneOf, Bel_iff_tup, Bel_iff_agg, Bel_iff_rsl, Bel_iff_fn, Bel_iff_rptr, Bel_val]; done)))) | refine thenQ_n ?_ | refine thenQ_r ?_ | refine thenQ_e ?_ | refine blockQ_n ?_ | refine blockQ_r ?_ | refine blockQ_e ?_ | (apply blockQ_o; (exact rfl)) | refine Awp.seq ?_ | refine Awp.skip ?_ | refine Awp.block ?_ | refine reg (fun s => false) ?_ | (apply drwE mixed (fun s => false); (kernel_rfl)) | refine fin ?_ | refine Awp.ret ?_ | refine Awp.exit ?_ | ((first | (apply off; (exact rfl)) | apply condF); (first | (focus (simp only [go_sem, ↓reduceIte, simprocAttr, hlt', t0, t1, t2, t3, t12, t13, t14, hb, hbv, hvl, hvi, hin, Nat.zero_add, l3, w1, e2, hsu] <;> rfl)) | exact rfl)))
          all_goals first | contradiction | (exfalso; omega) | skip
          refine ⟨i + 1, ⟨hlt, ⟨?_, ?_, ?_, ?_, ?_, ?_, ?_⟩, hI2⟩, Nat.sub_lt_sub_left hlt (Nat.lt_succ_self i)⟩
          · (first | (focus (simp only [go_sem, ↓reduceIte, simprocAttr, t0]; first | done | rfl)) | rfl)
          · (first | (focus (simp only [go_sem, ↓reduceIte, simprocAttr, t1]; first | done | rfl)) | rfl)
          · (first | (focus (simp only [go_sem, ↓reduceIte, simprocAttr, t2]; first | done | rfl)) | rfl)
          · (first | (focus (simp only [go_sem, ↓reduceIte, simprocAttr, t3]; first | done | rfl)) | rfl)
          · (first | (focus (simp only [go_sem, ↓reduceIte, simprocAttr, t12]; first | done | rfl)) | rfl)
          · (first | (focus (simp only [go_sem, ↓reduceIte, simprocAttr, t13]; first | done | rfl)) | rfl)
          · (first | (focus (simp only [go_sem, ↓reduceIte, simprocAttr, hsu]; first | done | rfl)) | rfl)
        · have hyj := hy i h K hh (by simp [dueB]; omega) hI
          repeat' (first | refine spD (fun _ => ?_) (fun _ => ?_) | refine spF (fun _ => ?_) (fun _ => ?_) | (apply gT; (exact rfl)) | (apply off; (exact rfl); (exact rfl)) | (apply condT; (exact rfl)) | (apply condF; (exact rfl)) | ((first | (apply stp0; (exact rfl); (exact rfl)) | (apply stpN0; (exact rfl)) | apply gT | apply condT | ((first | apply bodyQ_d0 | apply bodyQ_d1 | apply bodyQ_d2 | apply bodyQ_d3 | apply bodyQ_d4); (exact .inr rfl); (rw [Try.results97]))); (first | (focus (simp only [go_sem, ↓reduceIte, simprocAttr, hlt', t0, t1, t2, t3, t12, t13, t14, hb, hbv, hvl, hvi, hin, Nat.zero_add, l3, w1, e2] <;> rfl)) | exact rfl); (first | (fail_if_success (show okD _ _ _ _ _ _ _ _ _)) | (first | exact okT | exact okN | exact okE rfl)); (first | (fail_if_success (show Bel _ _)) | (focus first | exact .val _ | (simp [oneOf, Bel_iff_tup, Bel_iff_agg, Bel_iff_rsl, Bel_iff_fn, Bel_iff_rptr, Bel_val]; done)))) | refine thenQ_n ?_ | refine thenQ_r ?_ | refine thenQ_e ?_ | refine blockQ_n ?_ | refine blockQ_r ?_ | refine blockQ_e ?_ | (apply blockQ_o; (exact rfl)) | refine Awp.seq ?_ | refine Awp.skip ?_ | refine Awp.block ?_ | refine reg (fun s => false) ?_ | (apply drwE mixed (fun s => false); (kernel_rfl)) | refine fin ?_ | refine Awp.ret ?_ | refine Awp.exit ?_ | ((first | (apply off; (exact rfl)) | apply condF); (first | (focus (simp only [go_sem, ↓reduceIte, simprocAttr, hlt', t0, t1, t2, t3, t12, t13, t14, hb, hbv, hvl, hvi, hin, Nat.zero_add, l3, w1, e2] <;> rfl)) | exact rfl)))
          all_goals first | contradiction | (exfalso; omega) | skip
          refine cal rfl rfl ?_ ?_ (show ACallV Try.prog (.fn (.yield b) []) [iv h.r.id] K _ from hyj) ?_
          · (first | (focus (simp only [go_sem, ↓reduceIte, simprocAttr, t0]; first | done | rfl)) | rfl)
          · (first | (focus (simp only [go_sem, ↓reduceIte, simprocAttr]; first | done | rfl)) | rfl)
          rintro v1 H2 ⟨rfl, hI2⟩
          repeat' (first | refine spD (fun _ => ?_) (fun _ => ?_) | refine spF (fun _ => ?_) (fun _ => ?_) | (apply gT; (exact rfl)) | (apply off; (exact rfl); (exact rfl)) | (apply condT; (exact rfl)) | (apply condF; (exact rfl)) | ((first | (apply stp0; (exact rfl); (exact rfl)) | (apply stpN0; (exact rfl)) | apply gT | apply condT | ((first | apply bodyQ_d0 | apply bodyQ_d1 | apply bodyQ_d2 | apply bodyQ_d3 | apply bodyQ_d4); (exact .inr rfl); (rw [Try.results97]))); (first | (focus (simp only [go_sem, ↓reduceIte, simprocAttr, t14, hsu] <;> rfl)) | exact rfl); (first | (fail_if_success (show okD _ _ _ _ _ _ _ _ _)) | (first | exact okT | exact okN | exact okE rfl)); (first | (fail_if_success (show Bel _ _)) | (focus first | exact .val _ | (simp [oneOf, Bel_iff_tup, Bel_iff_agg, Bel_iff_rsl, Bel_iff_fn, Bel_iff_rptr, Bel_val]; done)))) | refine thenQ_n ?_ | refine thenQ_r ?_ | refine thenQ_e ?_ | refine blockQ_n ?_ | refine blockQ_r ?_ | refine blockQ_e ?_ | (apply blockQ_o; (exact rfl)) | refine Awp.seq ?_ | refine Awp.skip ?_ | refine Awp.block ?_ | refine reg (fun s => false) ?_ | (apply drwE mixed (fun s => false); (kernel_rfl)) | refine fin ?_ | refine Awp.ret ?_ | refine Awp.exit ?_ | ((first | (apply off; (exact rfl)) | apply condF); (first | (focus (simp only [go_sem, ↓reduceIte, simprocAttr, t14, hsu] <;> rfl)) | exact rfl)))
          all_goals first | contradiction | (exfalso; omega) | skip
          refine ⟨i + 1, ⟨hlt, ⟨?_, ?_, ?_, ?_, ?_, ?_, ?_⟩, hI2⟩, Nat.sub_lt_sub_left hlt (Nat.lt_succ_self i)⟩
          · (first | (focus (simp only [go_sem, ↓reduceIte, simprocAttr, t0]; first | done | rfl)) | rfl)
          · (first | (focus (simp only [go_sem, ↓reduceIte, simprocAttr, t1]; first | done | rfl)) | rfl)
          · (first | (focus (simp only [go_sem, ↓reduceIte, simprocAttr, t2]; first | done | rfl)) | rfl)
          · (first | (focus (simp only [go_sem, ↓reduceIte, simprocAttr, t3]; first | done | rfl)) | rfl)
          · (first | (focus (simp only [go_sem, ↓reduceIte, simprocAttr, t12]; first | done | rfl)) | rfl)
          · (first | (focus (simp only [go_sem, ↓reduceIte, simprocAttr, t13]; first | done | rfl)) | rfl)
          · (first | (focus (simp only [go_sem, ↓reduceIte, simprocAttr, hsu]; first | done | rfl)) | rfl)
    · have hie : i = S.L.length := Nat.le_antisymm hi (Nat.not_lt.1 hlt)
      subst hie
      repeat' (first | refine spD (fun _ => ?_) (fun _ => ?_) | refine spF (fun _ => ?_) (fun _ => ?_) | (apply gT; (exact rfl)) | (apply off; (exact rfl); (exact rfl)) | (apply condT; (exact rfl)) | (apply condF; (exact rfl)) | ((first | (apply stp0; (exact rfl); (exact rfl)) | (apply stpN0; (exact rfl)) | apply gT | apply condT | ((first | apply bodyQ_d0 | apply bodyQ_d1 | apply bodyQ_d2 | apply bodyQ_d3 | apply bodyQ_d4); (exact .inr rfl); (rw [Try.results97]))); (first | (focus (simp only [go_sem, ↓reduceIte, simprocAttr, Int.lt_irrefl, t13, t14] <;> rfl)) | exact rfl); (first | (fail_if_success (show okD _ _ _ _ _ _ _ _ _)) | (first | exact okT | exact okN | exact okE rfl)); (first | (fail_if_success (show Bel _ _)) | (focus first | exact .val _ | (simp [oneOf, Bel_iff_tup, Bel_iff_agg, Bel_iff_rsl, Bel_iff_fn, Bel_iff_rptr, Bel_val]; done)))) | refine thenQ_n ?_ | refine thenQ_r ?_ | refine thenQ_e ?_ | refine blockQ_n ?_ | refine blockQ_r ?_ | refine blockQ_e ?_ | (apply blockQ_o; (exact rfl)) | refine Awp.seq ?_ | refine Awp.skip ?_ | refine Awp.block ?_ | refine reg (fun s => false) ?_ | (apply drwE mixed (fun s => false); (kernel_rfl)) | refine fin ?_ | refine Awp.ret ?_ | refine Awp.exit ?_ | ((first | (apply off; (exact rfl)) | apply condF); (first | (focus (simp only [go_sem, ↓reduceIte, simprocAttr, Int.lt_irrefl, t13, t14] <;> rfl)) | exact rfl)))
      all_goals first | contradiction | (exfalso; omega) | skip
      exact bodyQ_eq (.inl rfl) (by rw [Try.results97]; simp only [go_sem, ↓reduceIte, simprocAttr]; rfl) hI

end Go.Proofs.Ytlhchnnfgppneaa.Ab
