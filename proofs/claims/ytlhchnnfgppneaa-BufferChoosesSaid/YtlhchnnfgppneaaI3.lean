/- Buffers: slices.Insert at the end; the example runs. -/
import Derived.Test.YtlhchnnfgppneaaI2
namespace Go.Proofs.Ytlhchnnfgppneaa.Ab
open Go Go.RowKit Go.Proofs
set_option linter.unusedSimpArgs false
set_option linter.unusedVariables false
attribute [local irreducible] Awp wpO thenQ blockQ bodyQ ACalls stepA

abbrev iv (n : Int) : AV := .val (.int .i64 n)
abbrev bv (b : Bool) : AV := .val (.bool b)

set_option maxRecDepth 8000 in
theorem insert_nil (H : Hp) (vb : Nat) (y : AV) (hvb : H[vb]? = some (.cells [[y]] 2)) : CallsTo Try.prog 59 [.val (.slice none 0 0), .val (.int .i64 0), .msl vb 0 1] H (.msl H.length 0 1) (H ++ [.cells [[y]] 2]) := by
  refine ACalls.of_body Try.func59 rfl (by kernel_rfl) (by rw [Try.ntmps59]; simp) ?_; rw [Try.ntmps59]
  repeat' (first | refine spD (fun _ => ?_) (fun _ => ?_) | refine spF (fun _ => ?_) (fun _ => ?_) | (apply gT; (exact rfl)) | (apply off; (exact rfl); (exact rfl)) | (apply condT; (exact rfl)) | (apply condF; (exact rfl)) | ((first | (apply stp0; (exact rfl); (exact rfl)) | (apply stpN0; (exact rfl)) | apply gT | apply condT | ((first | apply bodyQ_d0 | apply bodyQ_d1 | apply bodyQ_d2 | apply bodyQ_d3 | apply bodyQ_d4); (exact .inr rfl); (rw [Try.results59]))); (first | (focus (simp only [go_sem, ↓reduceIte, simprocAttr, hvb] <;> rfl)) | exact rfl); (first | (fail_if_success (show okD _ _ _ _ _ _ _ _ _)) | (first | exact okT | exact okN | exact okE rfl)); (first | (fail_if_success (show Bel _ _)) | (focus first | exact .val _ | (simp [oneOf, Bel_iff_tup, Bel_iff_agg, Bel_iff_rsl, Bel_iff_fn, Bel_iff_rptr, Bel_val]; done)))) | refine thenQ_n ?_ | refine thenQ_r ?_ | refine thenQ_e ?_ | refine blockQ_n ?_ | refine blockQ_r ?_ | refine blockQ_e ?_ | (apply blockQ_o; (exact rfl)) | refine Awp.seq ?_ | refine Awp.skip ?_ | refine Awp.block ?_ | refine reg (fun s => false) ?_ | (apply drwE mixed (fun s => false); (kernel_rfl)) | refine fin ?_ | refine Awp.ret ?_ | refine Awp.exit ?_ | ((first | (apply off; (exact rfl)) | apply condF); (first | (focus (simp only [go_sem, ↓reduceIte, simprocAttr, hvb] <;> rfl)) | exact rfl)))
  all_goals first | (exfalso; omega) | skip
  refine bodyQ_mk (vs := [.msl H.length 0 1]) (.inr rfl) ?_ (Vs.refl _ _ _) ?_
  · (rw [Try.results59]; first | (simp only [go_sem, ↓reduceIte, simprocAttr]; done) | (simp only [go_sem, ↓reduceIte, simprocAttr]; rfl))
  · exact ⟨rfl, rfl⟩

set_option maxRecDepth 8000 in
theorem insert_end (H : Hp) (b n vb : Nat) (es : List (List AV)) (y : Int) (hb : H[b]? = some (.cells es 2)) (hvb : H[vb]? = some (.cells [[iv y]] 2)) (hn : n ≤ es.length) (h0 : 0 < es.length)
    (hall : es.all (fun e => e.length == 1) = true) (hbig : (n + 1) * 8 ≤ 140737488355328) :
    CallsTo Try.prog 59 [.msl b 0 n, .val (.int .i64 n), .msl vb 0 1] H (.msl H.length 0 (n + 1)) (H.set b .dead ++ [.cells (es.take n ++ [[iv y]]) 2]) := by
  have hsl : sliceA Try.prog 46 (.msl b 0 n) (some (iv n)) none none = some (if n = 0 then .msl b 0 n else .rsl [] false) := by
    rw [sl46]
    unfold sliceB bnd
    have e0 : (0 : Int) ≤ (n : Int) := by omega
    simp only [e0, if_true, Int.toNat_natCast, Nat.le_refl, and_self]
    split <;> rfl
  refine ACalls.of_body Try.func59 rfl (by kernel_rfl) (by rw [Try.ntmps59]; simp) ?_; rw [Try.ntmps59]
  repeat' (first | refine spD (fun _ => ?_) (fun _ => ?_) | refine spF (fun _ => ?_) (fun _ => ?_) | (apply gT; (exact rfl)) | (apply off; (exact rfl); (exact rfl)) | (apply condT; (exact rfl)) | (apply condF; (exact rfl)) | ((first | (apply stp0; (exact rfl); (exact rfl)) | (apply stpN0; (exact rfl)) | apply gT | apply condT | ((first | apply bodyQ_d0 | apply bodyQ_d1 | apply bodyQ_d2 | apply bodyQ_d3 | apply bodyQ_d4); (exact .inr rfl); (rw [Try.results59]))); (first | (focus (simp only [go_sem, ↓reduceIte, simprocAttr, hb, hvb, hn, h0, hall, hbig, hsl, List.all_cons, List.all_nil] <;> rfl)) | exact rfl); (first | (fail_if_success (show okD _ _ _ _ _ _ _ _ _)) | (first | exact okT | exact okN | exact okE rfl)); (first | (fail_if_success (show Bel _ _)) | (focus first | exact .val _ | (simp [oneOf, Bel_iff_tup, Bel_iff_agg, Bel_iff_rsl, Bel_iff_fn, Bel_iff_rptr, Bel_val]; done)))) | refine thenQ_n ?_ | refine thenQ_r ?_ | refine thenQ_e ?_ | refine blockQ_n ?_ | refine blockQ_r ?_ | refine blockQ_e ?_ | (apply blockQ_o; (exact rfl)) | refine Awp.seq ?_ | refine Awp.skip ?_ | refine Awp.block ?_ | refine reg (fun s => false) ?_ | (apply drwE mixed (fun s => false); (kernel_rfl)) | refine fin ?_ | refine Awp.ret ?_ | refine Awp.exit ?_ | ((first | (apply off; (exact rfl)) | apply condF); (first | (focus (simp only [go_sem, ↓reduceIte, simprocAttr, hb, hvb, hn, h0, hall, hbig, hsl, List.all_cons, List.all_nil] <;> rfl)) | exact rfl)))
  all_goals first | (exfalso; omega) | skip
  refine bodyQ_mk (vs := [.msl H.length 0 (n + 1)]) (.inr rfl) ?_ (Vs.refl _ _ _) ?_
  · (rw [Try.results59]; first | (simp only [go_sem, ↓reduceIte, simprocAttr]; done) | (simp only [go_sem, ↓reduceIte, simprocAttr]; rfl))
  · exact ⟨rfl, rfl⟩

/-- what is known of slices.Insert: one number, ahead of the others or behind them -/
def insX : Ora := fun k args H =>
  if k = 59 then
    match args with
    | [s, .val (.int .i64 i), .msl vb 0 1] => match H[vb]? with
      | some (.cells [[.val (.int .i64 y)]] 2) =>
        match s with
        | .val (.slice none 0 0) => if i = 0 then some (.msl H.length 0 1, H ++ [.cells [[.val (.int .i64 y)]] 2], []) else none
        | .msl b 0 n => match H[b]? with
          | some (.cells es 2) =>
            if 0 ≤ i ∧ i.toNat ≤ n ∧ n ≤ es.length ∧ b ≠ vb ∧ 0 < es.length ∧ es.all (fun e => e.length == 1) = true ∧ es.all (fun e => e.all AV.isCell) = true ∧ (n + 1) * 8 ≤ 140737488355328 then
              some (.msl H.length 0 (n + 1), H.set b .dead ++ [.cells ((es.take n).take i.toNat ++ [[.val (.int .i64 y)]] ++ (es.take n).drop i.toNat) 2], [b]) else none
          | _ => none
        | _ => none
      | _ => none
    | _ => none
  else none

theorem insX_ok : OraOk Try.prog insX := by
  intro k args H v H' t h
  unfold insX at h
  split at h
  · rename_i hk
    subst hk
    split at h
    · rename_i s i vb
      split at h
      · rename_i y hvb
        split at h
        · split at h
          · rename_i hi
            subst hi
            cases h
            exact ⟨insert_nil H vb _ hvb, Keeps.app _ _ _⟩
          · cases h
        · rename_i b n
          split at h
          · rename_i es hb
            split at h
            · rename_i hif
              obtain ⟨h0, h1, h2, h3, h4, h5, h6, h7⟩ := hif
              cases h
              refine ⟨?_, (Keeps.set _ _ _).trans (Keeps.app _ _ []) |>.weak (by simp)⟩
              rcases Nat.lt_or_ge i.toNat n with hlt | hge
              · have := insert_mid H b n i.toNat vb es (.val (.int .i64 y)) hb hvb h3 hlt h2 h5 h6 rfl h7
                rwa [show ((i.toNat : Nat) : Int) = i by omega] at this
              · have hin : i.toNat = n := by omega
                have := insert_end H b n vb es y hb hvb h2 h4 h5 h7
                rw [show ((n : Nat) : Int) = i by omega] at this
                rw [hin, List.take_of_length_le (by simp; omega), List.drop_of_length_le (by simp; omega), List.append_nil]
                exact this
            · cases h
          · cases h
        · cases h
      · cases h
    · cases h
  · cases h

/-- which slots are own blocks -/
def ownT : Nat → List Nat
  | 16 => [11]
  | 24 => [7, 54]
  | 60 => [2, 5]
  | 63 => [5]
  | _ => []
def ownF (k : FuncId) (s : Nat) : Bool := (ownT k).contains s

theorem fine_ok (H : Hp) : CallsTo Try.prog 20 [] H (bv true) H := closed_call (by kernel_rfl) insX_ok ownF 3000 (by kernel_rfl) H

end Go.Proofs.Ytlhchnnfgppneaa.Ab
