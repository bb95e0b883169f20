/- Regions whose operations are told one by one; a slice from its middle; clear. -/
import Derived.Test.YtlhchnnfgppneaaI3
namespace Go.Proofs.Ytlhchnnfgppneaa.Ab
open Go Go.RowKit Go.Proofs
set_option linter.unusedSimpArgs false
set_option linter.unusedVariables false

section
variable {base : Nat} {w0 w w' : World} {g : Gh} {H : Hp} {P : Program} {n : Nat} {rd : Option Nat} {T : Env} {Q : Exit → Env → Hp → Prop}

/-- operations in a row, each told by the machine's word -/
def wpW (P : Program) (n : Nat) : List Oper → Env → Hp → (Env → Hp → Prop) → Prop
  | [], T, H, K => K T H
  | o :: rest, T, H, K => dstOk n o.dst = true ∧ o.guard = none ∧ OpOK P o T H fun v H' => wpW P n rest (putA T o.dst v) H' K

theorem wpW_sound {ops : Array Oper} {r : Option Nat} {Q : Exit → Act → World → Prop} {base : Nat} {w0 : World} {ds : List Deferred} {g0 : Gh} {K : Env → Hp → Prop}
    (hQ : ∀ T H g w a, K T H → g0.le g → Sim base w0 g H w → TRel g n T a.tmps → a.defers = ds → Q .normal a w) :
    ∀ (l : List Oper) (T : Env) (H : Hp) (g : Gh) (w : World) (a : Act), g0.le g → Sim base w0 g H w →
      TRel g n T a.tmps → a.defers = ds → wpW P n l T H K → wpListIn (FR r) 0 P ops Q l a w
  | [], T, H, g, w, a, hg, S, hT, hd, h => hQ T H g w a h hg S hT hd
  | o :: rest, T, H, g, w, a, hg, S, hT, hd, h => by
    obtain ⟨hdst, hgd, h1⟩ := h
    have hw : Region.wanted o (yielded ops a.tmps) = true := by simp [Region.wanted, hgd]
    have hput : ∀ z, (a.put o.dst z).defers = a.defers := by intro z; cases o.dst <;> rfl
    unfold wpListIn
    rw [if_pos hw]
    refine h1 base w0 g w a r S (fun x _ => evA_rel hT x) _ _ (fun v z H' g' w' hk hg' S' hR => ?_)
    exact wpW_sound hQ rest _ H' g' w' _ (hg.trans hg') S' ((hT.mono hg').put hdst hR) (by rw [hput]; exact hd) hk

/-- a region without an order of its own, told so -/
theorem Awp.regionW {id : Nat} {ops : Array Oper} (h : wpW P n ops.toList T H (Q .normal)) : Awp P n rd (.region id ops false) T H Q := by
  intro base w0 g w a r S hT hr
  refine wpIn_region_list ?_
  exact wpW_sound (ops := ops) (r := r) (base := base) (w0 := w0) (ds := a.defers) (g0 := g) (K := Q .normal)
    (Q := fun e a' w' => ∃ T' H' g' ds, Q e T' H' ∧ g.le g' ∧ Sim base w0 g' H' w' ∧ TRel g' n T' a'.tmps ∧ a'.defers = ds ++ a.defers ∧ Marks g g' ds)
    (fun T H g' w' a' hk hg S' hT' hd => ⟨T, H, g', [], hk, hg, S', hT', hd, Marks.nil _ _⟩) ops.toList T H g w a (Gh.le.refl g) S hT rfl h
end

section
variable {T : Env} {H : Hp} {k : AV → Hp → Prop} {o : Oper}

theorem opMove {x : Operand} (ho : o.op = .move x) (hk : k (evA T x) H) : OpOK Try.prog o T H k := OpOK.step (mu := fun _ => false) (v := evA T x) (H' := H) (by simp [stepA, ho]) hk

theorem ints1 (v : List Int) : (v.map fun x => [AV.val (.int .i64 x)]).all (fun e => e.length == 1) = true := by simp

theorem opSliceLo {x i : Operand} {b len lo : Nat} {v : List Int} (ho : o.op = .slice 46 x (some i) none none) (hx : evA T x = .msl b 0 len) (hi : evA T i = .val (.int .i64 lo))
    (hb : H[b]? = some (.cells (v.map fun x => [.val (.int .i64 x)]) 2)) (hn : len ≤ v.length) (hl : lo < len) (hk : k (.msl b lo (len - lo)) H) : OpOK Try.prog o T H k := by
  intro base w0 g w a r S hr next Q hnx
  have hex : o.semAt (FR r).round a.eval = execOp a.eval o := Oper.semAt_eq _ _ _ (by intro c hc; rw [ho] at hc; cases hc)
  have h0 := hr x (by rw [ho]; simp [Op.operands, Call.operands])
  have h1 := hr i (by rw [ho]; simp [Op.operands, Call.operands])
  rw [hx] at h0
  rw [hi] at h1
  obtain ⟨y, cap, cur, hv, hy, hks, hlc, hcc, hcm, hw, hcur, hF⟩ := msl_flat S h0 hb (by simpa using hn) (ints1 v) (by simp; omega)
  generalize hiv : a.eval i = iv at h1
  cases h1
  have hinf : ∃ inf, Try.prog.info? 2 = some inf ∧ inf.size = 1 := by
    obtain ⟨i0, hi0, h0, h1, h2⟩ := info_parts i_inf2
    exact ⟨i0, hi0, h1⟩
  obtain ⟨inf, hi2, hs1⟩ := hinf
  have hrun := bounds_run (P := Try.prog) (w := w) (g := g) (lo := some (.val (.int .i64 (lo : Int)))) (hi := none) (mx := none) (lov := some (.int .i64 (lo : Int))) (hiv := none) (mxv := none) (len := len) (cap := cap) (l := lo) (h := len) (m := cap)
    (by simp [bnd]) rfl rfl (show R g _ _ from .val _) trivial trivial (by omega) hlc (Nat.le_refl _) (by simp)
  have hex2 : (execOp a.eval o).run Try.prog w = .ok (.value (.slice (some ⟨y, lo, none⟩) (len - lo) (cap - lo))) w := by
    simp only [execOp, ho, Option.map_some, Option.map_none, hv, hiv, Instr.sliceAt, Instr.slice, Sem.run_bind, run_underlying i_at46, Result.andThen_ok, run_sizeOf _ _ hi2, Sem.run_pure, hrun]
    have hne : ¬ cap = lo := by omega
    simp [hne, Addr.add, hs1, eq_comm]
  refine ⟨fun _ _ => trivial, ?_⟩
  rw [hex, hex2]
  refine hnx _ _ H g w hk (Gh.le.refl g) S ?_
  have := R.msl (g := g) (b := b) (off := lo) (len := len - lo) (x := y) (cap := cap - lo) hy (by omega) (by omega) (by omega)
  rwa [hks, Nat.mul_one] at this

theorem opClear {x : Operand} {b lo m : Nat} {v : List Int} (ho : o.op = .call ⟨.builtin .clear, #[x], #[46]⟩) (hx : evA T x = .msl b lo m)
    (hb : H[b]? = some (.cells (v.map fun x => [.val (.int .i64 x)]) 2)) (hn : lo + m ≤ v.length) (h0 : 0 < m) (hk : ∀ (u : AV) (v' : List Int), v'.length = v.length → v'.take lo = v.take lo → k u (H.set b (.cells (v'.map fun x => [.val (.int .i64 x)]) 2))) : OpOK Try.prog o T H k := by
  intro base w0 g w a r S hr next Q hnx
  have hex : o.semAt (FR r).round a.eval = execOp a.eval o := Oper.semAt_eq _ _ _ (by intro c hc; rw [ho] at hc; cases hc)
  have h0' := hr x (by rw [ho]; simp [Op.operands, Call.operands])
  rw [hx] at h0'
  obtain ⟨y, cap, cur, hv, hy, hks, hlc, hcc, hcm, hw, hcur, hF⟩ := msl_flat S h0' hb (by simpa using hn) (ints1 v) (by simp; omega)
  obtain ⟨y2, o2, h1, h2, h3⟩ := S.obj b _ hb (by simp)
  rw [hy] at h1; cases h1
  rw [hw] at h2; cases h2
  cases h3 with
  | cells hs hl hk' hr' =>
  rw [hks] at hs hr' hk'
  simp only [Nat.mul_one] at hs hr' hv
  obtain ⟨zs, hzs⟩ : ∃ zs, zs = (Builtin.zeroCells (Value.int .i64 0).cells m).toList := ⟨_, rfl⟩
  have hzl : zs.length = m := by rw [hzs]; simp [Builtin.zeroCells, Value.cells]
  have hza : ∀ u ∈ zs, u = .int .i64 0 := by
    intro u hu
    rw [hzs] at hu
    simp only [Builtin.zeroCells, Value.cells, Array.toList_map, List.mem_map] at hu
    obtain ⟨i, hi, rfl⟩ := hu
    simp [Nat.mod_one]
  have hz1 : ∀ u ∈ zs, u.oneCell' = true := by intro u hu; rw [hza u hu]; rfl
  have hst := run_storeCells_at Try.prog y lo 2 zs 0 cur w hw (by rw [hzl]; omega) hz1
  have hex2 : (execOp a.eval o).run Try.prog w = .ok (.value (.tuple #[])) (w.setRow y (setAt cur.toList lo zs).toArray) := by
    have e1 : (Builtin.clear_ #[46] o.type #[.slice (some ⟨y, lo, none⟩) m cap]).run Try.prog w = .ok (.tuple #[]) (w.setRow y (setAt cur.toList lo zs).toArray) := by
      obtain ⟨m', rfl⟩ : ∃ m', m = m' + 1 := ⟨m - 1, by omega⟩
      simp [Builtin.clear_, run_underlying i_at46, i_zv2, ← hzs, hst, setAt]
    simp only [execOp, ho, resolve, invoke, builtin, Sem.run_bind, Sem.run_pure, Result.andThen_ok, List.map_toArray, List.map_cons, List.map_nil, hv, e1]
  refine ⟨fun _ _ => trivial, ?_⟩
  rw [hex, hex2]
  obtain ⟨v', hv'⟩ : ∃ v', v' = v.take lo ++ List.replicate m (0 : Int) ++ v.drop (lo + m) := ⟨_, rfl⟩
  have hvl : v'.length = v.length := by rw [hv']; simp; omega
  have hvt : v'.take lo = v.take lo := by rw [hv', List.append_assoc, List.take_append_of_le_length (by simp; omega), List.take_take, Nat.min_self]
  have hsl : lo + zs.length ≤ cur.toList.length := by rw [hzl]; simp; omega
  refine hnx _ _ _ g _ (hk _ v' hvl hvt) (Gh.le.refl g) (S.turn hb (by simp) hy (w' := w.setRow y (setAt cur.toList lo zs).toArray) ⟨rfl, rfl, rfl, by simp [World.setRow], fun k _ hk => setRow_other w y k _ (fun e => hk (by simp [e]))⟩ (setRow_heap w y cur _ 2 _ hw) ?_) (.val _)
  rw [hks]
  refine .cells (by simp only [List.size_toArray]; rw [setAt_length _ _ _ hsl]; simpa using hs) (by simpa [hvl] using hl) (fun i e he => ?_) (fun i e j c he hc => ?_)
  · rw [List.getElem?_map, Option.map_eq_some_iff] at he
    obtain ⟨_, _, rfl⟩ := he; rfl
  · rw [List.getElem?_map, Option.map_eq_some_iff] at he
    obtain ⟨x1, hx1, rfl⟩ := he
    have hj : j = 0 := by have := (List.getElem?_eq_some_iff.1 hc).1; simp at this; omega
    subst hj
    simp at hc; subst hc
    simp only [Nat.mul_one, Nat.add_zero, List.getElem?_toArray]
    have hi : i < v.length := by rw [← hvl]; exact (List.getElem?_eq_some_iff.1 hx1).1
    rw [setAt_get _ _ _ _ hsl, hzl]
    have hold : ∀ z, v[i]? = some z → ∃ u, cur.toList[i]? = some u ∧ R g (.val (.int .i64 z)) u := by
      intro z hz
      obtain ⟨u, u1, u2⟩ := hr' i [.val (.int .i64 z)] 0 (.val (.int .i64 z)) (by rw [List.getElem?_map, hz]; rfl) rfl
      exact ⟨u, by simpa using u1, u2⟩
    by_cases c1 : i < lo
    · rw [if_pos c1]
      refine hold x1 ?_
      rw [hv', List.append_assoc, List.getElem?_append_left (by simp; omega), List.getElem?_take, if_pos c1] at hx1
      exact hx1
    · rw [if_neg c1]
      by_cases c2 : i < lo + m
      · rw [if_pos c2]
        rw [hv', List.append_assoc, List.getElem?_append_right (by simp; omega), List.getElem?_append_left (by simp; omega), List.getElem?_replicate] at hx1
        split at hx1
        · cases hx1
          have hzi : zs[i - lo]? = some zs[i - lo] := List.getElem?_eq_getElem (by omega)
          refine ⟨_, hzi, ?_⟩
          rw [hza _ (List.getElem_mem _)]
          exact .val _
        · cases hx1
      · rw [if_neg c2]
        refine hold x1 ?_
        rw [hv', List.getElem?_append_right (by simp; omega), List.getElem?_drop] at hx1
        simp at hx1
        rw [show lo + m + (i - (min lo v.length + m)) = i by omega] at hx1
        exact hx1
end

end Go.Proofs.Ytlhchnnfgppneaa.Ab
