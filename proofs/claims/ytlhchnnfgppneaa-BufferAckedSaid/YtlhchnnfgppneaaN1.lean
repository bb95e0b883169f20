/- Buffers: maps with integer keys. -/
import Derived.Test.YtlhchnnfgppneaaN0
namespace Go.Proofs.Ytlhchnnfgppneaa.Ab
open Go Go.RowKit Go.Proofs
set_option linter.unusedSimpArgs false
set_option linter.unusedVariables false
attribute [local irreducible] Awp wpO thenQ blockQ bodyQ ACalls stepA

def findM (x : Int) : List (Int × AV) → Nat → Option (Nat × AV)
  | [], _ => none
  | p :: l, i => if x = p.1 then some (i, p.2) else findM x l (i + 1)
def ents (ks : List (Int × AV)) : List (AV × AV) := ks.map fun p => (iv p.1, p.2)
theorem findA_M (x : Int) : ∀ (ks : List (Int × AV)) (i : Nat), findA .i64 x (ents ks) i = some (findM x ks i)
  | [], i => rfl
  | p :: l, i => by
    show (if IntKind.i64 = IntKind.i64 then (if x = p.1 then some (some (i, p.2)) else findA .i64 x (ents l) (i + 1)) else none) = _
    rw [if_pos rfl]
    unfold findM
    split
    · rfl
    · exact findA_M x l (i + 1)
theorem findM_shift (x : Int) : ∀ (ks : List (Int × AV)) (i : Nat), findM x ks i = (findM x ks 0).map fun p => (p.1 + i, p.2)
  | [], i => rfl
  | p :: l, i => by
    unfold findM
    split
    · simp
    · rw [findM_shift x l (i + 1), findM_shift x l (0 + 1)]
      cases findM x l 0 with
      | none => rfl
      | some q => simp; omega

/-- what a map holds -/
def getM (ks : List (Int × AV)) (x : Int) : Option AV := (findM x ks 0).map (·.2)
theorem getM_nil (x : Int) : getM [] x = none := rfl
theorem getM_cons (p : Int × AV) (l : List (Int × AV)) (x : Int) : getM (p :: l) x = if x = p.1 then some p.2 else getM l x := by
  unfold getM
  conv => lhs; unfold findM
  split
  · rfl
  · rw [findM_shift]
    cases findM x l 0 <;> rfl
def setM (x : Int) (v : AV) (ks : List (Int × AV)) : List (Int × AV) := match findM x ks 0 with
  | some (i, _) => ks.set i (x, v)
  | none => ks ++ [(x, v)]
def delM (x : Int) (ks : List (Int × AV)) : List (Int × AV) := match findM x ks 0 with
  | some (i, _) => ks.eraseIdx i
  | none => ks
theorem getM_none {x : Int} : ∀ {ks : List (Int × AV)}, getM ks x = none ↔ x ∉ ks.map (·.1)
  | [] => by simp [getM_nil]
  | p :: l => by
    rw [getM_cons]
    split
    · rename_i h; simp [h]
    · rename_i h; rw [getM_none]; simp [h]
theorem setM_cons (x : Int) (v : AV) (p : Int × AV) (l : List (Int × AV)) : setM x v (p :: l) = if x = p.1 then (x, v) :: l else p :: setM x v l := by
  unfold setM
  conv => lhs; unfold findM
  split
  · rename_i h
    split at h
    · rename_i e; cases h; simp [e]
    · rename_i e
      rw [if_neg e]
      rw [findM_shift] at h
      cases hf : findM x l 0 with
      | none => rw [hf] at h; cases h
      | some q => rw [hf] at h; simp at h; obtain ⟨rfl, rfl⟩ := h; rfl
  · rename_i h
    split at h
    · cases h
    · rename_i e
      rw [if_neg e]
      rw [findM_shift] at h
      cases hf : findM x l 0 with
      | none => rfl
      | some q => rw [hf] at h; cases h
theorem delM_cons (x : Int) (p : Int × AV) (l : List (Int × AV)) : delM x (p :: l) = if x = p.1 then l else p :: delM x l := by
  unfold delM
  conv => lhs; unfold findM
  split
  · rename_i h
    split at h
    · rename_i e; cases h; simp [e]
    · rename_i e
      rw [if_neg e]
      rw [findM_shift] at h
      cases hf : findM x l 0 with
      | none => rw [hf] at h; cases h
      | some q => rw [hf] at h; simp at h; obtain ⟨rfl, rfl⟩ := h; rfl
  · rename_i h
    split at h
    · cases h
    · rename_i e
      rw [if_neg e]
      rw [findM_shift] at h
      cases hf : findM x l 0 with
      | none => rfl
      | some q => rw [hf] at h; cases h
theorem getM_set (x : Int) (v : AV) : ∀ (ks : List (Int × AV)) (y : Int), getM (setM x v ks) y = if y = x then some v else getM ks y
  | [], y => by
    show getM [(x, v)] y = _
    rw [getM_cons]
  | p :: l, y => by
    rw [setM_cons]
    by_cases e : x = p.1
    · rw [if_pos e, getM_cons, getM_cons]
      by_cases k : y = x
      · rw [if_pos k, if_pos k]
      · rw [if_neg k, if_neg k, if_neg (by rw [← e]; exact k)]
    · rw [if_neg e, getM_cons, getM_cons, getM_set x v l y]
      by_cases k : y = p.1
      · rw [if_pos k, if_pos k, if_neg (by rw [k]; exact Ne.symm e)]
      · rw [if_neg k, if_neg k]
theorem setM_keys (x : Int) (v : AV) : ∀ (ks : List (Int × AV)), (ks.map (·.1)).Nodup → ((setM x v ks).map (·.1)).Nodup ∧ ∀ y, y ∈ (setM x v ks).map (·.1) → y = x ∨ y ∈ ks.map (·.1)
  | [], _ => by
    show ([(x, v)].map (·.1)).Nodup ∧ _
    simp [setM, findM]
  | p :: l, h => by
    rw [setM_cons]
    simp only [List.map_cons, List.nodup_cons] at h
    by_cases e : x = p.1
    · rw [if_pos e]
      simp only [List.map_cons, List.nodup_cons, List.mem_cons]
      exact ⟨⟨by rw [e]; exact h.1, h.2⟩, fun y hy => by rcases hy with h | h; exact .inl h; exact .inr (.inr h)⟩
    · rw [if_neg e]
      obtain ⟨h1, h2⟩ := setM_keys x v l h.2
      simp only [List.map_cons, List.nodup_cons, List.mem_cons]
      refine ⟨⟨fun m => ?_, h1⟩, fun y hy => ?_⟩
      · rcases h2 _ m with k | k
        · exact e k.symm
        · exact h.1 k
      · rcases hy with k | k
        · exact .inr (.inl k)
        · rcases h2 y k with k | k
          · exact .inl k
          · exact .inr (.inr k)
theorem getM_del {x : Int} : ∀ (ks : List (Int × AV)), (ks.map (·.1)).Nodup → ∀ y, getM (delM x ks) y = if y = x then none else getM ks y
  | [], _, y => by simp [delM, findM, getM_nil]
  | p :: l, h, y => by
    simp only [List.map_cons, List.nodup_cons] at h
    rw [delM_cons]
    by_cases e : x = p.1
    · rw [if_pos e, getM_cons]
      by_cases k : y = x
      · rw [if_pos k, getM_none, k, e]; exact h.1
      · rw [if_neg k, if_neg (by rw [← e]; exact k)]
    · rw [if_neg e, getM_cons, getM_cons, getM_del l h.2 y]
      by_cases k : y = p.1
      · rw [if_pos k, if_pos k, if_neg (by rw [k]; exact Ne.symm e)]
      · rw [if_neg k, if_neg k]
theorem delM_keys {x : Int} : ∀ (ks : List (Int × AV)), (ks.map (·.1)).Nodup → ((delM x ks).map (·.1)).Nodup ∧ ∀ y, y ∈ (delM x ks).map (·.1) → y ∈ ks.map (·.1)
  | [], _ => by simp [delM, findM]
  | p :: l, h => by
    simp only [List.map_cons, List.nodup_cons] at h
    rw [delM_cons]
    by_cases e : x = p.1
    · rw [if_pos e]
      exact ⟨h.2, fun y hy => by simp [hy]⟩
    · rw [if_neg e]
      obtain ⟨h1, h2⟩ := delM_keys (x := x) l h.2
      simp only [List.map_cons, List.nodup_cons, List.mem_cons]
      exact ⟨⟨fun m => h.1 (h2 _ m), h1⟩, fun y hy => by rcases hy with k | k; exact .inl k; exact .inr (h2 y k)⟩

/-- a map's entries tell a function -/
structure MapIs (ks : List (Int × AV)) (f : Int → Option AV) : Prop where
  nd : (ks.map (·.1)).Nodup
  get : ∀ x, getM ks x = f x
theorem MapIs.set {ks : List (Int × AV)} {f : Int → Option AV} (h : MapIs ks f) (x : Int) (v : AV) {f' : Int → Option AV} (hf : ∀ y, f' y = if y = x then some v else f y) : MapIs (setM x v ks) f' :=
  ⟨(setM_keys x v ks h.nd).1, fun y => by rw [getM_set, h.get, hf]⟩
theorem MapIs.del {ks : List (Int × AV)} {f : Int → Option AV} (h : MapIs ks f) (x : Int) {f' : Int → Option AV} (hf : ∀ y, f' y = if y = x then none else f y) : MapIs (delM x ks) f' :=
  ⟨(delM_keys ks h.nd).1, fun y => by rw [getM_del ks h.nd, h.get, hf]⟩
theorem MapIs.nil : MapIs [] (fun _ => none) := ⟨by simp, fun _ => rfl⟩

section
variable {H : Hp} {b : Nat} {ks : List (Int × AV)} {f : Int → Option AV} {t et : TypeId} {z : AV}
/-- a type of maps from integers -/
structure MapT (t et : TypeId) (z : AV) : Prop where
  und : Try.prog.underlying t = some (.map 2 et)
  zero : ∃ v, zeroV Try.prog et = some v ∧ unV v = z
theorem key2 : intKey Try.prog 2 = some .i64 := by unfold intKey; rw [Try.underlying2]
theorem MapT.look (hT : MapT t et z) (h : MapIs ks f) (hb : H[b]? = some (.amap (ents ks))) (x : Int) (ok : Bool) :
    lookA Try.prog t (.mp b) (iv x) ok H = some (match f x with | some v => if ok then .tup [v, bv true] else v | none => if ok then .tup [z, bv false] else z) := by
  obtain ⟨v, h1, h2⟩ := hT.zero
  have e4 : entsA (.mp b) H = some (ents ks) := by unfold entsA; simp only [hb]
  unfold lookA
  simp only [hT.und, key2, h1, e4, findA_M]
  rw [← h.get x]
  unfold getM
  cases findM x ks 0 with
  | none => cases ok <;> simp [h2]
  | some p => cases ok <;> rfl
theorem MapT.upd (hT : MapT t et z) (hb : H[b]? = some (.amap (ents ks))) (x : Int) (v : AV) : updA Try.prog t (.mp b) (iv x) v H = some (H.set b (.amap (ents (setM x v ks)))) := by
  unfold updA
  simp only [hT.und, key2, hb, findA_M]
  unfold setM
  cases findM x ks 0 with
  | none => simp [ents]
  | some p => simp [ents, List.map_set]
theorem eraseIdx_map {α β : Type} (g : α → β) : ∀ (l : List α) (i : Nat), (l.map g).eraseIdx i = (l.eraseIdx i).map g
  | [], _ => rfl
  | _ :: _, 0 => rfl
  | x :: l, i + 1 => by simp [eraseIdx_map g l i]
theorem MapT.del (hT : MapT t et z) (hb : H[b]? = some (.amap (ents ks))) (x : Int) : delA Try.prog t (.mp b) (iv x) H = some (H.set b (.amap (ents (delM x ks)))) := by
  unfold delA
  simp only [hT.und, key2, hb, findA_M]
  unfold delM
  cases findM x ks 0 with
  | none => rfl
  | some p => simp [ents, eraseIdx_map]
end

def recZ : AV := .agg [iv 0, iv 0, iv 0, iv 0, iv 0]
theorem mT40 : MapT 40 23 recZ := ⟨by kernel_rfl, ⟨.agg #[.int .i64 0, .int .i64 0, .int .i64 0, .int .i64 0, .int .i64 0], by unfold zeroV; kernel_rfl, rfl⟩⟩
theorem mT106 : MapT 106 3 (iv 0) := ⟨by kernel_rfl, ⟨.int .i64 0, by unfold zeroV; kernel_rfl, rfl⟩⟩
theorem mT107 : MapT 107 2 (iv 0) := ⟨by kernel_rfl, ⟨.int .i64 0, by unfold zeroV; kernel_rfl, rfl⟩⟩

end Go.Proofs.Ytlhchnnfgppneaa.Ab
