/- BufferBest: parcels by small numbers. -/
import Derived.Test.YtlhchnnfgppneaaRB
namespace Go.Proofs.Ytlhchnnfgppneaa.Ab
open Go Go.RowKit Go.Proofs
set_option linter.unusedSimpArgs false
set_option linter.unusedVariables false
attribute [local irreducible] Awp wpO thenQ blockQ bodyQ ACalls stepA

theorem prs_app (v : List Pr) (c : Pr) : prs v ++ [[iv c.size, iv c.worth]] = prs (v ++ [c]) := by simp [prs, Pr.cs]
theorem plainPrs (v : List Pr) : Plain (prs v) := by
  intro e he a ha
  obtain ⟨c, _, rfl⟩ := List.mem_map.1 he
  simp [Pr.cs] at ha
  rcases ha with rfl | rfl <;> exact ⟨_, rfl⟩
/-- two small numbers -/
def u8w (x : Int) : AV := .val (.int .u8 x)
def dbs (l : List (Int × Int)) : List (List AV) := l.map fun p => [u8w p.1, u8w p.2]
theorem dbs_len (l : List (Int × Int)) : (dbs l).length = l.length := by simp [dbs]
def par (p : Int × Int) : Pr := ⟨1 + p.1, p.2⟩

set_option maxRecDepth 8000 in
theorem parcels_ok (H : Hp) (l : List (Int × Int)) (ex : Bool) (hl : l.length ≤ 20) (h8 : ∀ p ∈ l, (0 ≤ p.1 ∧ p.1 ≤ 255) ∧ 0 ≤ p.2 ∧ p.2 ≤ 255) :
    CallsTo Try.prog 47 [.rsl (dbs l) ex] H (.rsl (prs (l.map par)) false) H := by
  have hdl := dbs_len l
  refine ACalls.of_body Try.func47 rfl (by kernel_rfl) (by rw [Try.ntmps47]; simp) ?_; rw [Try.ntmps47]
  repeat' (first | refine spD (fun _ => ?_) (fun _ => ?_) | refine spF (fun _ => ?_) (fun _ => ?_) | (apply gT; (exact rfl)) | (apply off; (exact rfl); (exact rfl)) | (apply condT; (exact rfl)) | (apply condF; (exact rfl)) | ((first | (apply stp0; (exact rfl); (exact rfl)) | (apply stpN0; (exact rfl)) | apply gT | apply condT | ((first | apply bodyQ_d0 | apply bodyQ_d1 | apply bodyQ_d2 | apply bodyQ_d3 | apply bodyQ_d4); (exact .inr rfl); (rw [Try.results47]))); (first | (focus (simp only [go_sem, ↓reduceIte, simprocAttr, hdl] <;> rfl)) | exact rfl); (first | (fail_if_success (show okD _ _ _ _ _ _ _ _ _)) | (first | exact okT | exact okN | exact okE rfl)); (first | (fail_if_success (show Bel _ _)) | (focus first | exact .val _ | (simp [oneOf, Bel_iff_tup, Bel_iff_agg, Bel_iff_rsl, Bel_iff_fn, Bel_iff_rptr, Bel_val]; done)))) | refine thenQ_n ?_ | refine thenQ_r ?_ | refine thenQ_e ?_ | refine blockQ_n ?_ | refine blockQ_r ?_ | refine blockQ_e ?_ | (apply blockQ_o; (exact rfl)) | refine Awp.seq ?_ | refine Awp.skip ?_ | refine Awp.block ?_ | refine reg (fun s => false) ?_ | (apply drwE mixed (fun s => false); (kernel_rfl)) | refine fin ?_ | refine Awp.ret ?_ | refine Awp.exit ?_ | ((first | (apply off; (exact rfl)) | apply condF); (first | (focus (simp only [go_sem, ↓reduceIte, simprocAttr, hdl] <;> rfl)) | exact rfl)))
  all_goals first | contradiction | skip
  refine Awp.loop (ι := Nat) (fun i T' K => i ≤ l.length ∧ T' 4 = iv i ∧ T' 0 = .rsl (dbs l) ex ∧ Grow H K ∧ ∃ a, T' 3 = a ∧ Own H.length 94 K a (prs ((l.take i).map par))) (fun i => l.length - i) 0 ?_ ?_
  · exact ⟨Nat.zero_le _, by (first | (focus (simp only [go_sem, ↓reduceIte, simprocAttr]; first | done | rfl)) | rfl), by (first | (focus (simp only [go_sem, ↓reduceIte, simprocAttr]; first | done | rfl)) | rfl), Grow.refl _, nilS, by (first | (focus (simp only [go_sem, ↓reduceIte, simprocAttr]; first | done | rfl)) | rfl), .nil⟩
  rintro i T K ⟨hi, t4, t0, hG, a, t3, hO⟩
  by_cases hil : i < l.length
  · obtain ⟨p, hp⟩ := nth hil
    have hpc : (dbs l)[i]? = some [.val (.int .u8 p.1), .val (.int .u8 p.2)] := nthMap (fun p : Int × Int => [u8w p.1, u8w p.2]) hp
    obtain ⟨p1, p2⟩ := h8 p (List.mem_of_getElem? hp)
    have w1 : IntKind.i64.wrap p.1 = p.1 := w64 (by omega) (by omega)
    have w2 : IntKind.i64.wrap p.2 = p.2 := w64 (by omega) (by omega)
    have w3 : IntKind.i64.wrap (1 + p.1) = 1 + p.1 := w64 (by omega) (by omega)
    have hw := wsucc hil (show l.length ≤ maxLen by simp only [maxLen]; omega)
    have hpl := prs_len ((l.take i).map par)
    have hpl2 : ((l.take i).map par).length = i := by simp; omega
    have hO2 : OwnR H.length 94 2 16 K a (prs ((l.take i).map par)) := ⟨hO, prs_two _, by rw [hpl, hpl2]; omega⟩
    have happ := prs_app ((l.take i).map par) (par p)
    have hs : (l.take i).map par ++ [par p] = (l.take (i + 1)).map par := by rw [List.take_add_one, hp]; simp
    have hge : (0 : Int) ≤ i := by omega
    repeat' (first | refine spD (fun _ => ?_) (fun _ => ?_) | refine spF (fun _ => ?_) (fun _ => ?_) | (apply gT; (exact rfl)) | (apply off; (exact rfl); (exact rfl)) | (apply condT; (exact rfl)) | (apply condF; (exact rfl)) | ((first | (apply stp0; (exact rfl); (exact rfl)) | (apply stpN0; (exact rfl)) | apply gT | apply condT | ((first | apply bodyQ_d0 | apply bodyQ_d1 | apply bodyQ_d2 | apply bodyQ_d3 | apply bodyQ_d4); (exact .inr rfl); (rw [Try.results47]))); (first | (focus (simp only [go_sem, ↓reduceIte, simprocAttr, Int.ofNat_lt.2 hil, t4, t0, t3, hdl, hpc, w1, w2, w3, hw, hge] <;> rfl)) | exact rfl); (first | (fail_if_success (show okD _ _ _ _ _ _ _ _ _)) | (first | exact okT | exact okN | exact okE rfl)); (first | (fail_if_success (show Bel _ _)) | (focus first | exact .val _ | (simp [oneOf, Bel_iff_tup, Bel_iff_agg, Bel_iff_rsl, Bel_iff_fn, Bel_iff_rptr, Bel_val]; done)))) | (apply stpApp; (exact rfl); (first | exact hO2); (iterate 2 (first | (focus (simp only [go_sem, ↓reduceIte, simprocAttr, Int.ofNat_lt.2 hil, t4, t0, t3, hdl, hpc, w1, w2, w3, hw, hge] <;> rfl)) | rfl)); (first | rfl | (simp [AV.isCell]; done)); (first | rfl | (simp; done)); (first | exact ap46 | exact ap75 | exact ap85 | exact ap86 | exact ap90 | exact ap141); (first | exact okT | exact okN | exact okE rfl)) | refine thenQ_n ?_ | refine thenQ_r ?_ | refine thenQ_e ?_ | refine blockQ_n ?_ | refine blockQ_r ?_ | refine blockQ_e ?_ | (apply blockQ_o; (exact rfl)) | refine Awp.seq ?_ | refine Awp.skip ?_ | refine Awp.block ?_ | refine reg (fun s => false) ?_ | (apply drwE mixed (fun s => false); (kernel_rfl)) | refine fin ?_ | refine Awp.ret ?_ | refine Awp.exit ?_ | ((first | (apply off; (exact rfl)) | apply condF); (first | (focus (simp only [go_sem, ↓reduceIte, simprocAttr, Int.ofNat_lt.2 hil, t4, t0, t3, hdl, hpc, w1, w2, w3, hw, hge] <;> rfl)) | exact rfl)))
    all_goals first | contradiction | skip
    have hO3 := hO.next hG.len [iv (1 + p.1), iv p.2] rfl rfl
    refine ⟨i + 1, ⟨hil, by (first | (focus (simp only [go_sem, ↓reduceIte, simprocAttr, hw]; first | done | rfl)) | rfl), by (first | (focus (simp only [go_sem, ↓reduceIte, simprocAttr, t0]; first | done | rfl)) | rfl), (hO.grow (Nat.le_refl _) hG).app _, .msl K.length 0 ((prs ((l.take i).map par)).length + 1), by (first | (focus (simp only [go_sem, ↓reduceIte, simprocAttr]; first | done | rfl)) | rfl), ?_⟩, by omega⟩
    rw [← hs, ← happ]; exact hO3
  · have e : i = l.length := by omega
    subst e
    rw [List.take_length] at hO
    repeat' (first | refine spD (fun _ => ?_) (fun _ => ?_) | refine spF (fun _ => ?_) (fun _ => ?_) | (apply gT; (exact rfl)) | (apply off; (exact rfl); (exact rfl)) | (apply condT; (exact rfl)) | (apply condF; (exact rfl)) | ((first | (apply stp0; (exact rfl); (exact rfl)) | (apply stpN0; (exact rfl)) | apply gT | apply condT); (first | (focus (simp only [go_sem, ↓reduceIte, simprocAttr, Int.lt_irrefl, t4, t0, t3, hdl] <;> rfl)) | exact rfl); (first | (fail_if_success (show okD _ _ _ _ _ _ _ _ _)) | (first | exact okT | exact okN | exact okE rfl))) | refine thenQ_n ?_ | refine thenQ_r ?_ | refine thenQ_e ?_ | refine blockQ_n ?_ | refine blockQ_r ?_ | refine blockQ_e ?_ | (apply blockQ_o; (exact rfl)) | refine Awp.seq ?_ | refine Awp.skip ?_ | refine Awp.block ?_ | refine reg (fun s => false) ?_ | (apply drwE mixed (fun s => false); (kernel_rfl)) | refine fin ?_ | refine Awp.ret ?_ | refine Awp.exit ?_ | ((first | (apply off; (exact rfl)) | apply condF); (first | (focus (simp only [go_sem, ↓reduceIte, simprocAttr, Int.lt_irrefl, t4, t0, t3, hdl] <;> rfl)) | exact rfl)))
    all_goals first | contradiction | skip
    exact bodyQ_own (.inr rfl) (by rw [Try.results47]; first | (simp only [go_sem, ↓reduceIte, simprocAttr, t3]; done) | (simp only [go_sem, ↓reduceIte, simprocAttr, t3]; rfl)) hG hO (plainPrs _)

end Go.Proofs.Ytlhchnnfgppneaa.Ab
