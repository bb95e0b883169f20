/- Sorting a row of one's own by ranks: the contract. -/
import Derived.Test.YtphfdbmbdaninaaM5
import Derived.Test.YtphfdbmbdaninaaWF
namespace Go.Proofs.Ytphfdbmbdaninaa.Ab
open Go Go.RowKit Go.Proofs Go.Maps Go.Sort Go.Shelf
set_option linter.unusedSimpArgs false
set_option linter.unusedVariables false

/-- what the function value is bound to -/
theorem key_args {g : Gh} {r : List Int} {ex : Bool} {v : Value} (hn : 0 < r.length) (h : R g (.fn (.func 126) [.rptr [.fn (.func 108) [.rptr [.rsl (ints r) ex] 0]] 0]) v) :
    ∃ KB ko RB qo rb ro cap, v = .func (.func 126) #[] #[.pointer (some ⟨KB, ko, none⟩)] ∧ g.fz KB ko = some (.func (.func 108) #[] #[.pointer (some ⟨RB, qo, none⟩)]) ∧
      g.fz RB qo = some (.slice (some ⟨rb, ro, none⟩) r.length cap) ∧ ∀ i, i < r.length → g.fz rb (ro + i) = some (.int .i64 (gA r i)) := by
  cases h with
  | fn hy hl hr =>
    rename_i vs
    have hs : vs.size = 1 := by simpa using hl.symm
    obtain ⟨a, rfl⟩ : ∃ a, vs = #[a] := ⟨vs[0], by
      apply Array.ext
      · simp [hs]
      · intro i h1 h2; simp at h2; subst h2; rfl⟩
    have h0 := hr 0 _ a rfl rfl
    cases h0 with
    | rptr us hf hr2 =>
      rename_i KB ko
      have f0 := hf 0 (by simp)
      have k0 := hr2 0 _ rfl
      generalize us 0 = u at f0 k0
      cases k0 with
      | fn hy2 hl2 hr3 =>
        rename_i ws
        have hs2 : ws.size = 1 := by simpa using hl2.symm
        obtain ⟨b, rfl⟩ : ∃ b, ws = #[b] := ⟨ws[0], by
          apply Array.ext
          · simp [hs2]
          · intro i h1 h2; simp at h2; subst h2; rfl⟩
        have h1 := hr3 0 _ b rfl rfl
        cases h1 with
        | rptr ts hf4 hr4 =>
          rename_i RB qo
          have f1 := hf4 0 (by simp)
          have k1 := hr4 0 _ rfl
          generalize ts 0 = t at f1 k1
          have hil := ints_len r
          generalize hes : ints r = es at k1 hil
          cases k1 with
          | rnil a => simp at hil; omega
          | rsl zs hn2 hl5 hc5 hm5 hk5 hf5 hr5 =>
            rename_i rb ro kk nn cap
            have hk1 : kk = 1 := by
              obtain ⟨x, hx⟩ := nth hn
              have hx' : es[0]? = some [iv x] := by rw [← hes]; exact nthMap (fun x => [iv x]) hx
              exact (hk5 0 _ hx').symm
            subst hk1
            refine ⟨KB, ko, RB, qo, rb, ro, cap, rfl, by simpa using f0, ?_, fun i hi => ?_⟩
            · have : nn = r.length := by omega
              rw [← this]; simpa using f1
            · have hx' : es[i]? = some [iv (gA r i)] := by rw [← hes]; exact gA_at hi
              have z1 := hf5 i 0 (by omega) (by omega)
              have z2 := hr5 i _ 0 _ hx' rfl
              generalize zs i 0 = z at z1 z2
              cases z2
              simpa using z1

end Go.Proofs.Ytphfdbmbdaninaa.Ab
