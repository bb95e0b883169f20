/- Buffers: Put, its loop. -/
import Derived.Test.YtlhchnnfgppneaaN8
namespace Go.Proofs.Ytlhchnnfgppneaa.Ab
open Go Go.RowKit Go.Proofs
set_option linter.unusedSimpArgs false
set_option linter.unusedVariables false
attribute [local irreducible] Awp wpO thenQ blockQ bodyQ ACalls stepA

def hdC : Code → Code
  | .seq x _ => x
  | c => c
def inC : Code → Code
  | .block _ c => c
  | .loop c => c
  | c => c

/-- what is taken off the end -/
structure Cut (H K : Hp) (F : Ft) (w w' : Rw) (S : Bf) (o : Nat) (a : AV) (ds : List Int) : Prop where
  rep : Rep K F w' S
  good : Good S
  row : w'.ord = .msl o 0 S.L.length
  lo : H.length ≤ o
  own : Own H.length 2 K a (ints ds)
  fr : FrO F w H K
  ne : ∀ m, a ≠ .msl o 0 m
  len : ds.length + S.L.length ≤ 257
  ge : F.b < H.length ∧ F.r < H.length ∧ F.s < H.length ∧ F.t < H.length

theorem FrO.ownA {F : Ft} {w : Rw} {H D : Hp} {t : TypeId} {a : AV} {es : List (List AV)} (h : FrO F w H D) (hO : Own H.length t D a es) : FrO F w H (ownK D a) :=
  ⟨by rw [ownK_len]; exact h.len, fun j hj b c d e f => by rw [ownK_low hO hj]; exact h.old j hj b c d e f⟩
theorem ints_one (v : List Int) : ∀ e ∈ ints v, e.length = 1 := by
  intro e he
  obtain ⟨x, _, rfl⟩ := List.mem_map.1 he
  rfl
theorem ints_app (v : List Int) (x : Int) : ints v ++ [[iv x]] = ints (v ++ [x]) := by simp [ints]

set_option maxRecDepth 8000 in
set_option maxHeartbeats 8000000 in
theorem put18 {H K : Hp} {F : Ft} {w w' : Rw} {S : Bf} {o : Nat} {a : AV} {ds : List Int} {T : Env} {Q : Exit → Env → Hp → Prop} (h : Cut H K F w w' S o a ds) {x : Hd} (hx : S.L.getLast? = some x)
    (t2 : T 2 = .rptr [.mptr F.b 0 0] 0) (t10 : T 10 = a)
    (hq : ∀ T2 K2 w2 a2, T2 2 = .rptr [.mptr F.b 0 0] 0 → T2 10 = a2 → Cut H K2 F w w2 S.drop o a2 (ds ++ [S.lastId]) → Q .normal T2 K2) :
    Awp Try.prog 131 none (tl (inC (tl (inC (inC (hdC (tl (tl (tl (tl (tl (tl (tl (tl (tl (tl (Try.f24.body.getD .skip))))))))))))))))) T K Q := by
  unfold Try.f24
  simp only [tl, hdC, inC, Option.getD_some]
  have hb := h.rep.raw.hb
  have hg := h.good
  obtain ⟨v, hv, hnv, h0, hids⟩ := h.rep.ord.blk h.row
  have hvl := ints_len v
  have hs := last_split hx
  obtain ⟨m, hm⟩ : ∃ m, S.L.length = m + 1 := ⟨S.L.dropLast.length, by
    have := congrArg List.length hs
    rw [List.length_append, List.length_singleton] at this
    exact this⟩
  have hlen := hg.len
  have hm2 : m = S.L.dropLast.length := by rw [List.length_dropLast]; omega
  have hvm : v[m]? = some x.r.id := by
    have h1 : (idsL S.L)[m]? = some x.r.id := by
      unfold idsL
      rw [List.getElem?_map]
      have : S.L[m]? = some x := by conv => lhs; rw [hs]; simp [hm2]
      rw [this]; rfl
    rw [hids, List.getElem?_take, if_pos (by omega)] at h1
    exact h1
  have hrow : (ints v)[m]? = some [iv x.r.id] := nthMap (fun x => [iv x]) hvm
  have hrow2 := h.row
  rw [hm] at hnv hrow2
  have wm : IntKind.i64.wrap (((m + 1 : Nat) : Int) - 1) = (m : Int) := by rw [w64 (by omega) (by omega)]; omega
  have hsl : sliceA Try.prog 46 (.msl o 0 (m + 1)) none (some (iv m)) none = some (.msl o 0 m) := by
    rw [sl46]
    unfold sliceB bnd
    have e0 : (0 : Int) ≤ (m : Int) := by omega
    simp only [e0, if_true, Int.toNat_natCast]
    rw [if_pos (by omega)]
  have hm1 : m < m + 1 := Nat.lt_succ_self m
  obtain ⟨R1, F1⟩ := h.rep.raw.setB w'.used w'.time (.msl o 0 m)
  have b1 := R1.hb
  simp only [Rw.cs, hrow2] at hb b1
  repeat' ((fail_if_success (apply stopR (id := 21))); (fail_if_success (apply stopS (id := 21))); first | refine spD (fun _ => ?_) (fun _ => ?_) | refine spF (fun _ => ?_) (fun _ => ?_) | (apply gT; (exact rfl)) | (apply off; (exact rfl); (exact rfl)) | (apply condT; (exact rfl)) | (apply condF; (exact rfl)) | ((first | (apply stp0; (exact rfl); (exact rfl)) | (apply stpN0; (exact rfl)) | apply gT | apply condT | ((first | apply bodyQ_d0 | apply bodyQ_d1 | apply bodyQ_d2 | apply bodyQ_d3 | apply bodyQ_d4); (exact .inr rfl); (rw [Try.results24]))); (first | (focus (simp only [go_sem, ↓reduceIte, simprocAttr, t2, t10, hb, hv, hvl, hrow, wm, hsl, hm1, Nat.zero_add, b1] <;> rfl)) | exact rfl); (first | (fail_if_success (show okD _ _ _ _ _ _ _ _ _)) | (first | exact okT | exact okN | exact okE rfl)); (first | (fail_if_success (show Bel _ _)) | (focus first | exact .val _ | (simp [oneOf, Bel_iff_tup, Bel_iff_agg, Bel_iff_rsl, Bel_iff_fn, Bel_iff_rptr, Bel_val]; done)))) | refine thenQ_n ?_ | refine thenQ_r ?_ | refine thenQ_e ?_ | refine blockQ_n ?_ | refine blockQ_r ?_ | refine blockQ_e ?_ | (apply blockQ_o; (exact rfl)) | refine Awp.seq ?_ | refine Awp.skip ?_ | refine Awp.block ?_ | refine reg (fun s => s == 7) ?_ | (apply drwL mixed (fun s => s == 7) (.of fun _ => false); (exact rfl); (kernel_rfl); (kernel_rfl); simp only [List.pop_toArray, List.dropLast_cons_cons, List.dropLast_singleton, List.map_cons, List.map_nil]) | refine fin ?_ | refine Awp.ret ?_ | refine Awp.exit ?_ | ((first | (apply off; (exact rfl)) | apply condF); (first | (focus (simp only [go_sem, ↓reduceIte, simprocAttr, t2, t10, hb, hv, hvl, hrow, wm, hsl, hm1, Nat.zero_add, b1] <;> rfl)) | exact rfl)))
  all_goals first | contradiction | (exfalso; omega) | skip
  refine Awp.withT (fun T' => T' 2 = .rptr [.mptr F.b 0 0] 0 ∧ T' 10 = a ∧ T' 12 = iv x.r.id) ⟨?_, ?_, ?_⟩ ?_
  · (first | (focus (simp only [go_sem, ↓reduceIte, simprocAttr, t2]; first | done | rfl)) | rfl)
  · (first | (focus (simp only [go_sem, ↓reduceIte, simprocAttr, t10]; first | done | rfl)) | rfl)
  · (first | (focus (simp only [go_sem, ↓reduceIte, simprocAttr]; first | done | rfl)) | rfl)
  clear t2 t10 T
  rintro T ⟨t2, t10, t12⟩
  obtain ⟨g1, g2, g3, g4⟩ := h.ge
  have hO1 := h.own.setLow g1 (.cells [[iv w'.cap, iv w'.used, iv w'.time, .msl o 0 m, .mp F.r, .mp F.s, .mp F.t]] 109)
  have hv1 : (K.set F.b (.cells [[iv w'.cap, iv w'.used, iv w'.time, .msl o 0 m, .mp F.r, .mp F.s, .mp F.t]] 109))[o]? = some (.cells (ints v) 2) := by
    have := h.lo
    rw [List.getElem?_set_ne (by omega)]; exact hv
  have hFr1 := h.fr.trans F1
  generalize List.set K F.b (.cells [[iv w'.cap, iv w'.used, iv w'.time, .msl o 0 m, .mp F.r, .mp F.s, .mp F.t]] 109) = B at *
  have hxm : S.L[m]? = some x := by conv => lhs; rw [hs]; simp [hm2]
  have hfx := findH_at hg.nd hxm
  have hk1 : (getM w'.kr x.r.id).getD recZ = .agg x.r.cs := by rw [h.rep.mr.get]; unfold recF; rw [hfx]; rfl
  have hk2 : (getM w'.ks x.r.id).getD (iv 0) = iv (if x.sm then 1 else 0) := by rw [h.rep.ms.get]; unfold smF; rw [hfx]; cases e : x.sm <;> simp [e]
  have hby : (if (if x.sm then (1 : Int) else 0) > 0 then x.r.pk else x.r.size) = x.bytes := by unfold Hd.bytes; cases e : x.sm <;> simp
  have hus := hg.used
  have hok := hg.ok x (List.mem_of_getElem? hxm)
  have hbd : 1 ≤ x.bytes ∧ x.bytes ≤ 16777216 := by
    simp only [Item.ok] at hok
    unfold Hd.bytes; split <;> omega
  have hrm := remove_ok R1 x.r.id x.r (if x.sm then 1 else 0) hk1 hk2 (by
    rw [hby]
    show -1099511627776 ≤ w'.used - x.bytes ∧ w'.used - x.bytes ≤ 1099511627776
    rw [h.rep.used]
    omega)
  rw [hby] at hrm
  repeat' (first | refine spD (fun _ => ?_) (fun _ => ?_) | refine spF (fun _ => ?_) (fun _ => ?_) | (apply gT; (exact rfl)) | (apply off; (exact rfl); (exact rfl)) | (apply condT; (exact rfl)) | (apply condF; (exact rfl)) | ((first | (apply stp0; (exact rfl); (exact rfl)) | (apply stpN0; (exact rfl)) | apply gT | apply condT | ((first | apply bodyQ_d0 | apply bodyQ_d1 | apply bodyQ_d2 | apply bodyQ_d3 | apply bodyQ_d4); (exact .inr rfl); (rw [Try.results24]))); (first | (focus (simp only [go_sem, ↓reduceIte, simprocAttr, t2, t10, t12] <;> rfl)) | exact rfl); (first | (fail_if_success (show okD _ _ _ _ _ _ _ _ _)) | (first | exact okT | exact okN | exact okE rfl)); (first | (fail_if_success (show Bel _ _)) | (focus first | exact .val _ | (simp [oneOf, Bel_iff_tup, Bel_iff_agg, Bel_iff_rsl, Bel_iff_fn, Bel_iff_rptr, Bel_val]; done)))) | refine thenQ_n ?_ | refine thenQ_r ?_ | refine thenQ_e ?_ | refine blockQ_n ?_ | refine blockQ_r ?_ | refine blockQ_e ?_ | (apply blockQ_o; (exact rfl)) | refine Awp.seq ?_ | refine Awp.skip ?_ | refine Awp.block ?_ | refine reg (fun s => s == 7) ?_ | (apply drwE mixed (fun s => s == 7); (kernel_rfl)) | refine fin ?_ | refine Awp.ret ?_ | refine Awp.exit ?_ | ((first | (apply off; (exact rfl)) | apply condF); (first | (focus (simp only [go_sem, ↓reduceIte, simprocAttr, t2, t10, t12] <;> rfl)) | exact rfl)))
  all_goals first | contradiction | (exfalso; omega) | skip
  refine cal rfl rfl rfl ?_ (show ACallV Try.prog (.fn (.func 61) []) [.mptr F.b 0 0, iv x.r.id] B _ from hrm) ?_
  · (first | (focus (simp only [go_sem, ↓reduceIte, simprocAttr, t2, t12]; first | done | rfl)) | rfl)
  rintro v1 H1 ⟨rfl, R2, F2⟩
  have hHl : B.length ≤ H1.length := F2.len
  have hol : o < B.length := (List.getElem?_eq_some_iff.1 hv1).1
  have hnf : ∀ j, H.length ≤ j → j ≠ F.b ∧ j ≠ F.r ∧ j ≠ F.s ∧ j ≠ F.t := fun j hj => ⟨by omega, by omega, by omega, by omega⟩
  have hO2 : Own H.length 2 H1 a (ints ds) := hO1.get fun j ob hj hb => by
    obtain ⟨e1, e2, e3, e4⟩ := hnf j hj
    rw [F2.old j (List.getElem?_eq_some_iff.1 hb).1 e1 e2 e3 e4]; exact hb
  have hv2 : H1[o]? = some (.cells (ints v) 2) := by
    obtain ⟨e1, e2, e3, e4⟩ := hnf o h.lo
    rw [F2.old o hol e1 e2 e3 e4]; exact hv1
  have hlen2 := h.len
  have hOR : OwnR H.length 2 1 8 H1 a (ints ds) := ⟨hO2, ints_one _, by rw [ints_len]; omega⟩
  have hFr2 := hFr1.trans F2
  repeat' (first | refine spD (fun _ => ?_) (fun _ => ?_) | refine spF (fun _ => ?_) (fun _ => ?_) | (apply gT; (exact rfl)) | (apply off; (exact rfl); (exact rfl)) | (apply condT; (exact rfl)) | (apply condF; (exact rfl)) | ((first | (apply stp0; (exact rfl); (exact rfl)) | (apply stpN0; (exact rfl)) | apply gT | apply condT | ((first | apply bodyQ_d0 | apply bodyQ_d1 | apply bodyQ_d2 | apply bodyQ_d3 | apply bodyQ_d4); (exact .inr rfl); (rw [Try.results24]))); (first | (focus (simp only [go_sem, ↓reduceIte, simprocAttr, t2, t10, t12] <;> rfl)) | exact rfl); (first | (fail_if_success (show okD _ _ _ _ _ _ _ _ _)) | (first | exact okT | exact okN | exact okE rfl)); (first | (fail_if_success (show Bel _ _)) | (focus first | exact .val _ | (simp [oneOf, Bel_iff_tup, Bel_iff_agg, Bel_iff_rsl, Bel_iff_fn, Bel_iff_rptr, Bel_val]; done)))) | (apply stpApp; (exact rfl); (first | exact hOR); (iterate 2 (first | (focus (simp only [go_sem, ↓reduceIte, simprocAttr, t2, t10, t12] <;> rfl)) | rfl)); (first | rfl | (simp [AV.isCell]; done)); (first | rfl | (simp; done)); (first | exact ap39 | exact ap44 | exact ap46 | exact ap61 | exact ap63 | exact ap75 | exact ap86 | exact ap101 | exact ap102); (first | exact okT | exact okN | exact okE rfl)) | refine thenQ_n ?_ | refine thenQ_r ?_ | refine thenQ_e ?_ | refine blockQ_n ?_ | refine blockQ_r ?_ | refine blockQ_e ?_ | (apply blockQ_o; (exact rfl)) | refine Awp.seq ?_ | refine Awp.skip ?_ | refine Awp.block ?_ | refine reg (fun s => s == 7) ?_ | (apply drwE mixed (fun s => s == 7); (kernel_rfl)) | refine fin ?_ | refine Awp.ret ?_ | refine Awp.exit ?_ | ((first | (apply off; (exact rfl)) | apply condF); (first | (focus (simp only [go_sem, ↓reduceIte, simprocAttr, t2, t10, t12] <;> rfl)) | exact rfl)))
  all_goals first | contradiction | (exfalso; omega) | skip
  obtain ⟨d1, d2⟩ := drop_eq hx
  have hK2 : ∀ j, j < H.length → (ownK H1 a ++ [AObj.cells (ints ds ++ [[iv x.r.id]]) 2])[j]? = H1[j]? := fun j hj => by
    rw [List.getElem?_append_left (by rw [ownK_len]; have := hFr2.len; omega)]; exact ownK_low hO2 hj
  have R3 : RepW (ownK H1 a ++ [AObj.cells (ints ds ++ [[iv x.r.id]]) 2]) F _ := ⟨(hK2 _ g1).trans R2.hb, (hK2 _ g2).trans R2.hr, (hK2 _ g3).trans R2.hs, (hK2 _ g4).trans R2.ht, R2.rs, R2.rt, R2.st⟩
  have hv3 : (ownK H1 a ++ [AObj.cells (ints ds ++ [[iv x.r.id]]) 2])[o]? = some (.cells (ints v) 2) := by
    rw [List.getElem?_append_left (by rw [ownK_len]; omega), ownK_get fun o' n e => h.ne n (by rw [e, hO2.zero _ _ _ e])]; exact hv2
  have hLs : idsL S.L.dropLast = v.take m := by
    have e1 : idsL S.L = idsL S.L.dropLast ++ [x.r.id] := by
      have := congrArg idsL hs
      unfold idsL at this ⊢
      rw [List.map_append] at this
      exact this
    have e2 := hids
    rw [e1, hm, List.take_add_one, hvm] at e2
    exact (List.append_inj' e2 (by simp)).1
  have hnd2 : (idsL (S.L.dropLast ++ [x])).Nodup := by rw [← hs]; exact hg.nd
  have q1 : OrdAt (ownK H1 a ++ [AObj.cells (ints ds ++ [[iv x.r.id]]) 2]) (.msl o 0 m) (idsL S.drop.L) := by
    rw [d1]
    show OrdAt _ _ (idsL S.L.dropLast)
    rw [hLs]; exact .row hv3 (by omega) h0
  have q2 : MapIs (delM x.r.id w'.kr) (recF S.drop.L) := h.rep.mr.del _ fun y => by
    rw [d1]
    show recF S.L.dropLast y = _
    unfold recF; rw [findH_last y S.L.dropLast hnd2, ← hs]
    split <;> rfl
  have q3 : MapIs (delM x.r.id w'.ks) (smF S.drop.L) := h.rep.ms.del _ fun y => by
    rw [d1]
    show smF S.L.dropLast y = _
    unfold smF; rw [findH_last y S.L.dropLast hnd2, ← hs]
    split <;> rfl
  have q4 : MapIs (delM x.r.id w'.kt) (stF S.drop.L) := h.rep.mt.del _ fun y => by
    rw [d1]
    show stF S.L.dropLast y = _
    unfold stF; rw [findH_last y S.L.dropLast hnd2, ← hs]
    split <;> rfl
  have hl3 : S.drop.L.length = m := by rw [d1]; exact hm2.symm
  refine hq _ _ _ (.msl H1.length 0 ((ints ds).length + 1)) ?_ ?_ ⟨Rep.mk (S := S.drop) R3 (by rw [d1]; exact h.rep.cap) (by rw [d1]; show w'.used - x.bytes = S.used - x.bytes; rw [h.rep.used]) (by rw [d1]; exact h.rep.time) q1 q2 q3 q4, hg.dropG hx, ?_, h.lo, ?_, ?_, ?_, ?_, h.ge⟩
  · (first | (focus (simp only [go_sem, ↓reduceIte, simprocAttr, t2]; first | done | rfl)) | rfl)
  · (first | (focus (simp only [go_sem, ↓reduceIte, simprocAttr]; first | done | rfl)) | rfl)
  · show AV.msl o 0 m = _; rw [hl3]
  · rw [d2, ← ints_app]
    exact hO2.next hFr2.len [iv x.r.id] rfl rfl
  · exact (hFr2.ownA hO2).app _
  · intro k e
    injection e with e
    omega
  · rw [hl3, List.length_append, List.length_singleton]; omega

end Go.Proofs.Ytlhchnnfgppneaa.Ab
