/- maps.Clone: what it does to a world, and its contract. -/
import Derived.Test.YtlhchnnfgppneaaI3
import Derived.WalkSpells
namespace Go.Proofs.Ytlhchnnfgppneaa.Ab
open Go Go.RowKit Go.Proofs
set_option linter.unusedSimpArgs false
set_option linter.unusedVariables false

variable {base : Nat} {w0 w w' : World} {g : Gh} {H : Hp}

theorem clone_eq (t : TypeId) (r : Nat) : Extern.MapsClone.clone #[.iface t (.map (some r))] = (do
    let .map entries clock ← getObj r | stuck "maps.clone: a map expected"
    pure (.iface t (.map (some (← newObj (.map entries clock)))))) := rfl

theorem clone_fn (w : World) (t : TypeId) (r : Nat) (ms : Array MapEntry) (clock : Nat) (h : w.heap[r]? = some (.map ms clock)) :
    (callFunc 101 #[.iface t (.map (some r))]).run Try.prog w = .ok (.value (.iface t (.map (some w.heap.size)))) (w.alloc (.map ms clock)) := by
  rw [run_callFunc_extern Try.func101 (by kernel_rfl) (by kernel_rfl) (by kernel_rfl) (e := Extern.MapsClone.clone) (by kernel_rfl), clone_eq]
  have e1 : (getObj r).run Try.prog w = .ok (.map ms clock) w := by simp [getObj, Sem.run, h]
  simp [e1]

/-- the two steps of Go's own that are no contract of stepA's -/
theorem clone_iface (w : World) (t k e : TypeId) (r : Nat) (h : Try.prog.underlying t = some (.map k e)) : (Instr.makeInterface t (.map (some r))).run Try.prog w = .ok (.iface t (.map (some r))) w := by
  simp [Instr.makeInterface, run_underlying h]
theorem clone_back (w : World) (t k e : TypeId) (r : Nat) (h : Try.prog.underlying t = some (.map k e)) : (Instr.typeAssert (.iface t (.map (some r))) 20 t false).run Try.prog w = .ok (.map (some r)) w := by
  simp [Instr.typeAssert, run_underlying h]

theorem i_at40 : Try.prog.underlying 40 = some (.map 2 23) := by kernel_rfl

set_option maxHeartbeats 4000000 in
set_option maxRecDepth 100000 in
theorem clone71 (w : World) (r : Nat) (ms : Array MapEntry) (clock : Nat) (h : w.heap[r]? = some (.map ms clock)) :
    Calls Try.prog 71 #[.map (some r)] w fun e w' => e = .returned (.map (some w.heap.size)) ∧ w' = w.alloc (.map ms clock) := by
  have q40 : ∀ (w : World) (r : Option Nat), (binOp .eql 40 (.map r) (.map none)).run Try.prog w = .ok (.bool r.isNone) w := fun w r => run_eql_map_nil w _ _ _ r i_at40
  have h1 := clone_iface w 40 _ _ r i_at40
  have h2 := clone_fn w 40 r ms clock h
  have h3 := fun w => clone_back w 40 _ _ r i_at40
  have h4 := fun w r => clone_back w 40 _ _ r i_at40
  go_enter Try.func71, Try.ntmps71
  go_wp2_with (simp only [h1, h2, h3, h4, q40])
  go_ret
  exact ⟨rfl, rfl⟩

theorem i_at106 : ∃ k e, Try.prog.underlying 106 = some (.map k e) := ⟨2, 3, by kernel_rfl⟩
theorem i_at107 : ∃ k e, Try.prog.underlying 107 = some (.map k e) := ⟨2, 2, by kernel_rfl⟩

set_option maxHeartbeats 4000000 in
set_option maxRecDepth 100000 in
theorem clone72 (w : World) (r : Nat) (ms : Array MapEntry) (clock : Nat) (h : w.heap[r]? = some (.map ms clock)) :
    Calls Try.prog 72 #[.map (some r)] w fun e w' => e = .returned (.map (some w.heap.size)) ∧ w' = w.alloc (.map ms clock) := by
  obtain ⟨k, e, i_at⟩ := i_at106
  have q40 : ∀ (w : World) (r : Option Nat), (binOp .eql 106 (.map r) (.map none)).run Try.prog w = .ok (.bool r.isNone) w := fun w r => run_eql_map_nil w _ _ _ r i_at
  have h1 := clone_iface w 106 _ _ r i_at
  have h2 := clone_fn w 106 r ms clock h
  have h4 := fun w r => clone_back w 106 _ _ r i_at
  go_enter Try.func72, Try.ntmps72
  go_wp2_with (simp only [h1, h2, h4, q40])
  go_ret
  exact ⟨rfl, rfl⟩

set_option maxHeartbeats 4000000 in
set_option maxRecDepth 100000 in
theorem clone73 (w : World) (r : Nat) (ms : Array MapEntry) (clock : Nat) (h : w.heap[r]? = some (.map ms clock)) :
    Calls Try.prog 73 #[.map (some r)] w fun e w' => e = .returned (.map (some w.heap.size)) ∧ w' = w.alloc (.map ms clock) := by
  obtain ⟨k, e, i_at⟩ := i_at107
  have q40 : ∀ (w : World) (r : Option Nat), (binOp .eql 107 (.map r) (.map none)).run Try.prog w = .ok (.bool r.isNone) w := fun w r => run_eql_map_nil w _ _ _ r i_at
  have h1 := clone_iface w 107 _ _ r i_at
  have h2 := clone_fn w 107 r ms clock h
  have h4 := fun w r => clone_back w 107 _ _ r i_at
  go_enter Try.func73, Try.ntmps73
  go_wp2_with (simp only [h1, h2, h4, q40])
  go_ret
  exact ⟨rfl, rfl⟩

theorem oneArg0 {a : AV} {vs : Array Value} (hr : RCells g [a] vs) : ∃ v0, vs = #[v0] ∧ R g a v0 := by
  have hs := hr.size
  match vs, hs, hr with
  | ⟨[v0]⟩, _, hr => exact ⟨v0, rfl, hr.cell 0 _ _ rfl rfl⟩

theorem clone_of {f : FuncId} (hc : callable Try.prog f = true) (hC : ∀ (w : World) (r : Nat) (ms : Array MapEntry) (clock : Nat), w.heap[r]? = some (.map ms clock) → Calls Try.prog f #[.map (some r)] w fun e w' => e = .returned (.map (some w.heap.size)) ∧ w' = w.alloc (.map ms clock))
    {H : Hp} {b : Nat} {es : List (AV × AV)} (hb : H[b]? = some (.amap es)) : CallsTo Try.prog f [.mp b] H (.mp H.length) (H ++ [.amap es]) := by
  refine ⟨hc, fun base w0 g w vs S hr => ?_⟩
  obtain ⟨v0, rfl, h0⟩ := oneArg0 hr
  cases h0 with
  | mp hx =>
  rename_i x
  obtain ⟨y, o, h1, h2, h3⟩ := S.obj b _ hb (by simp)
  rw [hx] at h1; cases h1
  cases h3 with
  | amap hl hr' hs =>
  rename_i ms clock
  refine (callsIn_wide.2 (hC w x ms clock h2)).mono fun e w' ⟨he, hw'⟩ => ?_
  subst he hw'
  have hle : g.le (g.phAdd H.length w.heap.size 0 0) := Gh.phAdd_le S.fresh
  have S2 := S.alloc (k := 0) (c := 0) (ob := .amap es) (World.grownBy_alloc w (.map ms clock) none) (heap_alloc_new _ _) (.amap hl (fun i e m he hm => ⟨(hr' i e m he hm).1.mono hle, (hr' i e m he hm).2.mono hle⟩) hs)
  exact ⟨_, _, _, _, rfl, ⟨rfl, rfl⟩, hle, S2, .mp (by simp [Gh.phAdd])⟩

theorem clone71_ok {H : Hp} {b : Nat} {es : List (AV × AV)} (hb : H[b]? = some (.amap es)) : CallsTo Try.prog 71 [.mp b] H (.mp H.length) (H ++ [.amap es]) := clone_of (by kernel_rfl) clone71 hb
theorem clone72_ok {H : Hp} {b : Nat} {es : List (AV × AV)} (hb : H[b]? = some (.amap es)) : CallsTo Try.prog 72 [.mp b] H (.mp H.length) (H ++ [.amap es]) := clone_of (by kernel_rfl) clone72 hb
theorem clone73_ok {H : Hp} {b : Nat} {es : List (AV × AV)} (hb : H[b]? = some (.amap es)) : CallsTo Try.prog 73 [.mp b] H (.mp H.length) (H ++ [.amap es]) := clone_of (by kernel_rfl) clone73 hb

end Go.Proofs.Ytlhchnnfgppneaa.Ab
