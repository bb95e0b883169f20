/- Buffers: what Put keeps, in short. -/
import Derived.Test.YtlhchnnfgppneaaNC
namespace Go.Proofs.Ytlhchnnfgppneaa.Ab
open Go Go.RowKit Go.Proofs
set_option linter.unusedSimpArgs false
set_option linter.unusedVariables false
attribute [local irreducible] Awp wpO thenQ blockQ bodyQ ACalls stepA

def u8v (x : Int) : AV := .val (.int .u8 x)
theorem keptL {S : Bf} {r : Item} (hg : Good S) (hl : S.L.length ≤ 255) (hE : putE S r = 0) : Good (putR S r).1 ∧ (putR S r).1.cap = S.cap ∧ (putR S r).1.time = S.time ∧ (putR S r).1.L.length + (putR S r).2.length = S.L.length + 1 := by
  obtain ⟨hr, hm⟩ : r.ok ∧ r.id ∉ idsL S.L := by
    rcases putE_ok S r with ⟨_, _, h⟩ | ⟨h1, _, ⟨_, h⟩ | ⟨h2, ⟨_, h⟩ | ⟨_, _⟩⟩⟩
    · rw [hE] at h; cases h
    · rw [hE] at h; cases h
    · rw [hE] at h; cases h
    · exact ⟨h1, h2⟩
  obtain ⟨hs, _⟩ := shr_spec (S.ins r).mu (Shr.start (hg.insG (by omega) hr hm)) (Nat.le_refl _)
  have hP : putR S r = shr (S.ins r).mu (S.ins r) [] := by unfold putR; rw [if_pos hE]
  rw [← hP] at hs
  exact ⟨hs.good, hs.cap, hs.time, by rw [hs.len]; exact insA_len⟩
theorem put_good {S : Bf} {r : Item} (hg : Good S) (hl : S.L.length ≤ 255) : Good (putR S r).1 ∧ (putR S r).1.time = S.time ∧ (putR S r).1.L.length ≤ S.L.length + 1 := by
  by_cases h : putE S r = 0
  · obtain ⟨k1, _, k3, k4⟩ := keptL hg hl h
    exact ⟨k1, k3, by omega⟩
  · have : putR S r = (S, []) := by unfold putR; rw [if_neg h]
    rw [this]; exact ⟨hg, rfl, by simp⟩

end Go.Proofs.Ytlhchnnfgppneaa.Ab
