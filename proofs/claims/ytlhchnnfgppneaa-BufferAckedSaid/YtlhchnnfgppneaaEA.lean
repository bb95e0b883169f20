/- Buffers: what Put keeps, in short. -/
import Derived.Test.YtlhchnnfgppneaaNC
namespace Go.Proofs.Ytlhchnnfgppneaa.Ab
open Go Go.RowKit Go.Proofs
set_option linter.unusedSimpArgs false
set_option linter.unusedVariables false
attribute [local irreducible] Awp wpO thenQ blockQ bodyQ ACalls stepA

def u8v (x : Int) : AV := .val (.int .u8 x)
theorem keptL {S : Bf} {r : Item} (hg : Good S) (hl : S.L.length ≤ 255) (hE : putE S r = 0) : Good (putR S r).1 ∧ (putR S r).1.cap = S.cap ∧ (putR S r).1.time = S.time ∧ (putR S r).1.L.length + (putR S r).2.length = S.L.length + 1 := by
  obtain ⟨hr, hm⟩ : r.ok ∧ r.id ∉ idsL S.L := by
    rcases putE_ok S r with ⟨_, _, h⟩ | ⟨h1, _, ⟨_, h⟩ | ⟨h2, ⟨_, h⟩ | ⟨_, _⟩⟩⟩
    · rw [hE] at h; cases h
    · rw [hE] at h; cases h
    · rw [hE] at h; cases h
    · exact ⟨h1, h2⟩
  obtain ⟨hs, _⟩ := shr_spec (S.ins r).mu (Shr.start (hg.insG (by omega) hr hm)) (Nat.le_refl _)
  have hP : putR S r = shr (S.ins r).mu (S.ins r) [] := by unfold putR; rw [if_pos hE]
  rw [← hP] at hs
  exact ⟨hs.good, hs.cap, hs.time, by rw [hs.len]; exact insA_len⟩
theorem put_good {S : Bf} {r : Item} (hg : Good S) (hl : S.L.length ≤ 255) : Good (putR S r).1 ∧ (putR S r).1.time = S.time ∧ (putR S r).1.L.length ≤ S.L.length + 1 := by
  by_cases h : putE S r = 0
  · obtain ⟨k1, _, k3, k4⟩ := keptL hg hl h
    exact ⟨k1, k3, by omega⟩
  · have : putR S r = (S, []) := by unfold putR; rw [if_neg h]
    rw [this]; exact ⟨hg, rfl, by simp⟩

def sumH (L : List Hd) : Int := (L.map Hd.bytes).sum
theorem sumH_succ {L : List Hd} {k : Nat} {h : Hd} (hk : L[k]? = some h) : sumH (L.take (k + 1)) = sumH (L.take k) + h.bytes := by
  unfold sumH
  rw [List.take_add_one, hk]; simp
theorem sumH_in : ∀ L : List Hd, (∀ h ∈ L, h.r.ok) → 0 ≤ sumH L ∧ sumH L ≤ 16777216 * L.length := by
  intro L
  induction L with
  | nil => simp [sumH]
  | cons x l ih =>
    intro h
    have h1 := ih fun y hy => h y (by simp [hy])
    have h2 := h x (by simp)
    simp only [Item.ok] at h2
    have e : sumH (x :: l) = x.bytes + sumH l := by simp [sumH]
    have e2 : (16777216 : Int) * ((x :: l).length : Nat) = 16777216 * l.length + 16777216 := by rw [List.length_cons, Int.natCast_succ, Int.mul_add, Int.mul_one]
    have hb : 1 ≤ x.bytes ∧ x.bytes ≤ 16777216 := by unfold Hd.bytes; split <;> omega
    omega
def keepL (f : Int → Bool) (L : List Hd) : List Hd := L.filter fun h => !f h.r.id
theorem keepL_succ {f : Int → Bool} {L : List Hd} {i : Nat} {h : Hd} (hi : L[i]? = some h) : keepL f (L.take (i + 1)) = if f h.r.id then keepL f (L.take i) else keepL f (L.take i) ++ [h] := by
  unfold keepL
  rw [List.take_add_one, hi, List.filter_append]
  cases e : f h.r.id <;> simp [e]

end Go.Proofs.Ytlhchnnfgppneaa.Ab
