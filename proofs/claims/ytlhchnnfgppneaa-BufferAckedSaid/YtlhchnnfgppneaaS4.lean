/- The program's Ack: what DeleteFunc does to a buffer. -/
import Derived.Test.YtlhchnnfgppneaaQD
import Derived.Test.YtlhchnnfgppneaaS3
namespace Go.Proofs.Ytlhchnnfgppneaa.Ab
open Go Go.RowKit Go.Proofs
set_option linter.unusedSimpArgs false
set_option linter.unusedVariables false
attribute [local irreducible] Awp wpO thenQ blockQ bodyQ ACalls stepA

theorem findH_mid {x : Hd} (y : Int) : ∀ (A B : List Hd), (idsL (A ++ x :: B)).Nodup → findH (A ++ B) y = if y = x.r.id then none else findH (A ++ x :: B) y := by
  intro A
  induction A with
  | nil =>
    intro B hn
    have hn' := List.nodup_cons.1 (show (x.r.id :: idsL B).Nodup from hn)
    show findH B y = if y = x.r.id then none else (if y = x.r.id then some x else findH B y)
    split
    · rename_i e; rw [e]; exact findH_none.2 hn'.1
    · rfl
  | cons h l ih =>
    intro B hn
    have hn' := List.nodup_cons.1 (show (h.r.id :: idsL (l ++ x :: B)).Nodup from hn)
    have hne : x.r.id ≠ h.r.id := fun e => hn'.1 (by rw [← e]; simp [idsL])
    show (if y = h.r.id then some h else findH (l ++ B) y) = if y = x.r.id then none else (if y = h.r.id then some h else findH (l ++ x :: B) y)
    rw [ih B hn'.2]
    by_cases k : y = h.r.id
    · rw [if_pos k, if_pos k, if_neg (by rw [k]; exact Ne.symm hne)]
    · rw [if_neg k, if_neg k]

def Bf.keep (f : Int → Bool) (S : Bf) : Bf := { S with used := sumH (keepL f S.L), L := keepL f S.L }
/-- what is held when the first j have been asked -/
def midL (f : Int → Bool) (L : List Hd) (j : Nat) : List Hd := keepL f (L.take j) ++ L.drop j
theorem midL_zero (f : Int → Bool) (L : List Hd) : midL f L 0 = L := by simp [midL, keepL]
theorem midL_all (f : Int → Bool) (L : List Hd) : midL f L L.length = keepL f L := by simp [midL]
theorem drop_at {L : List Hd} {j : Nat} {h : Hd} (hj : L[j]? = some h) : L.drop j = h :: L.drop (j + 1) := by
  rw [List.drop_eq_getElem_cons (List.getElem?_eq_some_iff.1 hj).1, (List.getElem?_eq_some_iff.1 hj).2]
theorem midL_at {f : Int → Bool} {L : List Hd} {j : Nat} {h : Hd} (hj : L[j]? = some h) : midL f L j = keepL f (L.take j) ++ h :: L.drop (j + 1) := by unfold midL; rw [drop_at hj]
theorem midL_succ {f : Int → Bool} {L : List Hd} {j : Nat} {h : Hd} (hj : L[j]? = some h) : midL f L (j + 1) = if f h.r.id then keepL f (L.take j) ++ L.drop (j + 1) else midL f L j := by
  rw [midL_at hj]
  unfold midL
  rw [keepL_succ hj]
  split
  · rfl
  · rw [List.append_assoc]; rfl
theorem midL_sub (f : Int → Bool) (L : List Hd) (j : Nat) : (midL f L j).Sublist L := by
  conv => rhs; rw [← List.take_append_drop j L]
  exact (List.filter_sublist).append_right _
theorem idsL_sub {A B : List Hd} (h : A.Sublist B) : (idsL A).Sublist (idsL B) := h.map _
theorem keepL_ids (f : Int → Bool) (L : List Hd) : idsL (keepL f L) = keepI f (idsL L) := by
  unfold idsL keepL keepI
  rw [List.filter_map]; rfl
theorem sumH_mid (A B : List Hd) (x : Hd) : sumH (A ++ x :: B) = sumH (A ++ B) + x.bytes := by
  unfold sumH
  simp only [List.map_append, List.map_cons, List.sum_append, List.sum_cons]; omega
theorem Good.keepG {f : Int → Bool} {S : Bf} (h : Good S) : Good (S.keep f) := by
  have hs : (keepL f S.L).Sublist S.L := List.filter_sublist
  exact ⟨(idsL_sub hs).nodup h.nd, fun x hx => h.ok x (hs.subset hx), rfl, Nat.le_trans hs.length_le h.len, h.cap, h.srt.sublist hs⟩

/-- between two questions -/
structure AI (H : Hp) (F : Ft) (w : Rw) (f : Int → Bool) (L : List Hd) (j : Nat) (K : Hp) : Prop where
  ex : ∃ w', RepW K F w' ∧ w'.cap = w.cap ∧ w'.time = w.time ∧ w'.ord = w.ord ∧ w'.used = sumH (midL f L j) ∧ MapIs w'.kr (recF (midL f L j)) ∧ MapIs w'.ks (smF (midL f L j)) ∧ MapIs w'.kt (stF (midL f L j))
  fr : FrO F w H K

theorem AI.asks {H : Hp} {F : Ft} {w : Rw} {L : List Hd} {s : List (Int × Int)} {ex : Bool} (hc : setC s = 0) (hm : s.length ≤ maxLen) (hnd : (idsL L).Nodup) (hok : ∀ h ∈ L, h.r.ok) (hl : L.length ≤ 257) {b : Nat} (hF : H[b]? = H[b]? ∧ b < H.length ∧ b ≠ F.b ∧ b ≠ F.r ∧ b ≠ F.s ∧ b ≠ F.t) :
    AsksI 67 [.rptr [.rsl (sps s) ex] 0, .rptr [.mptr F.b 0 0] 0] b (idsL L) (isInB s) (AI H F w (isInB s) L) := by
  intro j x K hx hI
  obtain ⟨⟨w', hR, h1, h2, h3, h4, q1, q2, q3⟩, hfr⟩ := hI
  obtain ⟨h, hh, rfl⟩ : ∃ h, L[j]? = some h ∧ h.r.id = x := by
    unfold idsL at hx
    rw [List.getElem?_map, Option.map_eq_some_iff] at hx
    exact hx
  have hma := midL_at (f := isInB s) hh
  have hms := midL_succ (f := isInB s) hh
  have hmn : (idsL (midL (isInB s) L j)).Nodup := (idsL_sub (midL_sub _ _ _)).nodup hnd
  have hmj : (midL (isInB s) L j)[(keepL (isInB s) (L.take j)).length]? = some h := by rw [hma]; simp
  have hfx := findH_at hmn hmj
  have hk1 : (getM w'.kr h.r.id).getD recZ = .agg h.r.cs := by rw [q1.get]; unfold recF; rw [hfx]; rfl
  have hk2 : (getM w'.ks h.r.id).getD (iv 0) = iv (if h.sm then 1 else 0) := by rw [q2.get]; unfold smF; rw [hfx]; cases e : h.sm <;> simp [e]
  have hby : (if (if h.sm then (1 : Int) else 0) > 0 then h.r.pk else h.r.size) = h.bytes := by unfold Hd.bytes; cases e : h.sm <;> simp
  have hs1 := sumH_in (midL (isInB s) L j) (fun y hy => hok y ((midL_sub _ _ _).subset hy))
  have hs2 := (midL_sub (isInB s) L j).length_le
  have hokh := hok h (List.mem_of_getElem? hh)
  have hbd : 1 ≤ h.bytes ∧ h.bytes ≤ 16777216 := by
    simp only [Item.ok] at hokh
    unfold Hd.bytes; split <;> omega
  have hA := ack1_ok hR s ex hc hm h.r.id h.r (if h.sm then 1 else 0) hk1 hk2 (by rw [hby, h4]; omega)
  rw [hby] at hA
  refine ACalls.mono hA fun v1 K1 ⟨hv, ht, hf⟩ => ⟨hv, ?_, ?_⟩
  · cases e : isInB s h.r.id with
    | true =>
      have := (ht e).2
      exact this.old b (Nat.lt_of_lt_of_le hF.2.1 hfr.len) hF.2.2.1 hF.2.2.2.1 hF.2.2.2.2.1 hF.2.2.2.2.2
    | false => rw [hf e]
  · cases e : isInB s h.r.id with
    | true =>
      obtain ⟨hR1, hF1⟩ := ht e
      rw [e, if_pos rfl] at hms
      rw [hma] at q1 q2 q3 h4 hmn
      rw [sumH_mid] at h4
      refine ⟨⟨_, hR1, h1, h2, h3, ?_, ?_, ?_, ?_⟩, hfr.trans hF1⟩
      · rw [hms]; show w'.used - h.bytes = _; omega
      · rw [hms]; exact q1.del _ fun y => by unfold recF; rw [findH_mid y _ _ hmn]; split <;> rfl
      · rw [hms]; exact q2.del _ fun y => by unfold smF; rw [findH_mid y _ _ hmn]; split <;> rfl
      · rw [hms]; exact q3.del _ fun y => by unfold stF; rw [findH_mid y _ _ hmn]; split <;> rfl
    | false =>
      rw [e, if_neg (by simp)] at hms
      rw [hf e]
      refine ⟨⟨w', hR, h1, h2, h3, ?_, ?_, ?_, ?_⟩, hfr⟩ <;> rw [hms] <;> assumption

theorem AI.setRow {H : Hp} {F : Ft} {w : Rw} {f : Int → Bool} {L : List Hd} {b m : Nat} (ho : w.ord = .msl b 0 m) (hF : b ≠ F.b ∧ b ≠ F.r ∧ b ≠ F.s ∧ b ≠ F.t) (j : Nat) (K : Hp) (c : AObj) (h : AI H F w f L j K) : AI H F w f L j (K.set b c) := by
  obtain ⟨⟨w', hR, h⟩, hfr⟩ := h
  refine ⟨⟨w', ⟨?_, ?_, ?_, ?_, hR.rs, hR.rt, hR.st⟩, h⟩, ⟨by rw [List.length_set]; exact hfr.len, fun i hi a1 a2 a3 a4 a5 => ?_⟩⟩
  · rw [List.getElem?_set_ne hF.1]; exact hR.hb
  · rw [List.getElem?_set_ne hF.2.1]; exact hR.hr
  · rw [List.getElem?_set_ne hF.2.2.1]; exact hR.hs
  · rw [List.getElem?_set_ne hF.2.2.2]; exact hR.ht
  · rw [List.getElem?_set_ne (fun e => a5 m (by rw [ho, e]))]; exact hfr.old i hi a1 a2 a3 a4 a5

set_option maxRecDepth 8000 in
theorem index_nil (H : Hp) (f : FuncId) (cap : List AV) : CallsTo Try.prog 98 [nilS, .fn (.func f) cap] H (iv (-1)) H := by
  refine ACalls.of_body Try.func98 rfl (by kernel_rfl) (by rw [Try.ntmps98]; simp) ?_; rw [Try.ntmps98]
  repeat' (first | refine spD (fun _ => ?_) (fun _ => ?_) | refine spF (fun _ => ?_) (fun _ => ?_) | (apply gT; (exact rfl)) | (apply off; (exact rfl); (exact rfl)) | (apply condT; (exact rfl)) | (apply condF; (exact rfl)) | ((first | (apply stp0; (exact rfl); (exact rfl)) | (apply stpN0; (exact rfl)) | apply gT | apply condT | ((first | apply bodyQ_d0 | apply bodyQ_d1 | apply bodyQ_d2 | apply bodyQ_d3 | apply bodyQ_d4); (exact .inr rfl); (rw [Try.results98]))); (first | (focus (simp only [go_sem, ↓reduceIte, simprocAttr] <;> rfl)) | exact rfl); (first | (fail_if_success (show okD _ _ _ _ _ _ _ _ _)) | (first | exact okT | exact okN | exact okE rfl)); (first | (fail_if_success (show Bel _ _)) | (focus first | exact .val _ | (simp [oneOf, Bel_iff_tup, Bel_iff_agg, Bel_iff_rsl, Bel_iff_fn, Bel_iff_rptr, Bel_val]; done)))) | refine thenQ_n ?_ | refine thenQ_r ?_ | refine thenQ_e ?_ | refine blockQ_n ?_ | refine blockQ_r ?_ | refine blockQ_e ?_ | (apply blockQ_o; (exact rfl)) | refine Awp.seq ?_ | refine Awp.skip ?_ | refine Awp.block ?_ | refine reg (fun s => false) ?_ | (apply drwE mixed (fun s => false); (kernel_rfl)) | refine fin ?_ | refine Awp.ret ?_ | refine Awp.exit ?_ | ((first | (apply off; (exact rfl)) | apply condF); (first | (focus (simp only [go_sem, ↓reduceIte, simprocAttr] <;> rfl)) | exact rfl)))
  refine Awp.loop (ι := Nat) (fun _ T' K => T' 8 = iv 0 ∧ T' 7 = iv 0 ∧ K = H) (fun m => m) 0 ?_ ?_
  · refine ⟨?_, ?_, rfl⟩
    · (first | (focus (simp only [go_sem, ↓reduceIte, simprocAttr]; first | done | rfl)) | rfl)
    · (first | (focus (simp only [go_sem, ↓reduceIte, simprocAttr]; first | done | rfl)) | rfl)
  rintro m T K ⟨t8, t7, hK⟩
  rw [hK]
  repeat' (first | refine spD (fun _ => ?_) (fun _ => ?_) | refine spF (fun _ => ?_) (fun _ => ?_) | (apply gT; (exact rfl)) | (apply off; (exact rfl); (exact rfl)) | (apply condT; (exact rfl)) | (apply condF; (exact rfl)) | ((first | (apply stp0; (exact rfl); (exact rfl)) | (apply stpN0; (exact rfl)) | apply gT | apply condT | ((first | apply bodyQ_d0 | apply bodyQ_d1 | apply bodyQ_d2 | apply bodyQ_d3 | apply bodyQ_d4); (exact .inr rfl); (rw [Try.results98]))); (first | (focus (simp only [go_sem, ↓reduceIte, simprocAttr, t8, t7] <;> rfl)) | exact rfl); (first | (fail_if_success (show okD _ _ _ _ _ _ _ _ _)) | (first | exact okT | exact okN | exact okE rfl)); (first | (fail_if_success (show Bel _ _)) | (focus first | exact .val _ | (simp [oneOf, Bel_iff_tup, Bel_iff_agg, Bel_iff_rsl, Bel_iff_fn, Bel_iff_rptr, Bel_val]; done)))) | refine thenQ_n ?_ | refine thenQ_r ?_ | refine thenQ_e ?_ | refine blockQ_n ?_ | refine blockQ_r ?_ | refine blockQ_e ?_ | (apply blockQ_o; (exact rfl)) | refine Awp.seq ?_ | refine Awp.skip ?_ | refine Awp.block ?_ | refine reg (fun s => false) ?_ | (apply drwE mixed (fun s => false); (kernel_rfl)) | refine fin ?_ | refine Awp.ret ?_ | refine Awp.exit ?_ | ((first | (apply off; (exact rfl)) | apply condF); (first | (focus (simp only [go_sem, ↓reduceIte, simprocAttr, t8, t7] <;> rfl)) | exact rfl)))
  all_goals first | contradiction | (exfalso; omega) | rfl | skip
set_option maxRecDepth 8000 in
theorem delete_nil (H : Hp) (f : FuncId) (cap : List AV) : CallsTo Try.prog 66 [nilS, .fn (.func f) cap] H nilS H := by
  have hi := index_nil H f cap
  refine ACalls.of_body Try.func66 rfl (by kernel_rfl) (by rw [Try.ntmps66]; simp) ?_; rw [Try.ntmps66]
  repeat' (first | refine spD (fun _ => ?_) (fun _ => ?_) | refine spF (fun _ => ?_) (fun _ => ?_) | (apply gT; (exact rfl)) | (apply off; (exact rfl); (exact rfl)) | (apply condT; (exact rfl)) | (apply condF; (exact rfl)) | ((first | (apply stp0; (exact rfl); (exact rfl)) | (apply stpN0; (exact rfl)) | apply gT | apply condT | ((first | apply bodyQ_d0 | apply bodyQ_d1 | apply bodyQ_d2 | apply bodyQ_d3 | apply bodyQ_d4); (exact .inr rfl); (rw [Try.results66]))); (first | (focus (simp only [go_sem, ↓reduceIte, simprocAttr] <;> rfl)) | exact rfl); (first | (fail_if_success (show okD _ _ _ _ _ _ _ _ _)) | (first | exact okT | exact okN | exact okE rfl)); (first | (fail_if_success (show Bel _ _)) | (focus first | exact .val _ | (simp [oneOf, Bel_iff_tup, Bel_iff_agg, Bel_iff_rsl, Bel_iff_fn, Bel_iff_rptr, Bel_val]; done)))) | (apply calTo0; (exact rfl); (iterate 2 (simp only [go_sem, ↓reduceIte, simprocAttr]; rfl)); (first | exact hi); (first | exact okT | exact okN | exact okE rfl)) | refine thenQ_n ?_ | refine thenQ_r ?_ | refine thenQ_e ?_ | refine blockQ_n ?_ | refine blockQ_r ?_ | refine blockQ_e ?_ | (apply blockQ_o; (exact rfl)) | refine Awp.seq ?_ | refine Awp.skip ?_ | refine Awp.block ?_ | refine reg (fun s => false) ?_ | (apply drwE mixed (fun s => false); (kernel_rfl)) | refine fin ?_ | refine Awp.ret ?_ | refine Awp.exit ?_ | ((first | (apply off; (exact rfl)) | apply condF); (first | (focus (simp only [go_sem, ↓reduceIte, simprocAttr] <;> rfl)) | exact rfl)))
  all_goals first | contradiction | (exfalso; omega) | rfl | skip

set_option maxRecDepth 8000 in
theorem index_emp (H : Hp) (f : FuncId) (cap : List AV) : CallsTo Try.prog 98 [.rsl [] true, .fn (.func f) cap] H (iv (-1)) H := by
  refine ACalls.of_body Try.func98 rfl (by kernel_rfl) (by rw [Try.ntmps98]; simp) ?_; rw [Try.ntmps98]
  repeat' (first | refine spD (fun _ => ?_) (fun _ => ?_) | refine spF (fun _ => ?_) (fun _ => ?_) | (apply gT; (exact rfl)) | (apply off; (exact rfl); (exact rfl)) | (apply condT; (exact rfl)) | (apply condF; (exact rfl)) | ((first | (apply stp0; (exact rfl); (exact rfl)) | (apply stpN0; (exact rfl)) | apply gT | apply condT | ((first | apply bodyQ_d0 | apply bodyQ_d1 | apply bodyQ_d2 | apply bodyQ_d3 | apply bodyQ_d4); (exact .inr rfl); (rw [Try.results98]))); (first | (focus (simp only [go_sem, ↓reduceIte, simprocAttr] <;> rfl)) | exact rfl); (first | (fail_if_success (show okD _ _ _ _ _ _ _ _ _)) | (first | exact okT | exact okN | exact okE rfl)); (first | (fail_if_success (show Bel _ _)) | (focus first | exact .val _ | (simp [oneOf, Bel_iff_tup, Bel_iff_agg, Bel_iff_rsl, Bel_iff_fn, Bel_iff_rptr, Bel_val]; done)))) | refine thenQ_n ?_ | refine thenQ_r ?_ | refine thenQ_e ?_ | refine blockQ_n ?_ | refine blockQ_r ?_ | refine blockQ_e ?_ | (apply blockQ_o; (exact rfl)) | refine Awp.seq ?_ | refine Awp.skip ?_ | refine Awp.block ?_ | refine reg (fun s => false) ?_ | (apply drwE mixed (fun s => false); (kernel_rfl)) | refine fin ?_ | refine Awp.ret ?_ | refine Awp.exit ?_ | ((first | (apply off; (exact rfl)) | apply condF); (first | (focus (simp only [go_sem, ↓reduceIte, simprocAttr] <;> rfl)) | exact rfl)))
  refine Awp.loop (ι := Nat) (fun _ T' K => T' 8 = iv 0 ∧ T' 7 = iv 0 ∧ K = H) (fun m => m) 0 ?_ ?_
  · refine ⟨?_, ?_, rfl⟩
    · (first | (focus (simp only [go_sem, ↓reduceIte, simprocAttr]; first | done | rfl)) | rfl)
    · (first | (focus (simp only [go_sem, ↓reduceIte, simprocAttr]; first | done | rfl)) | rfl)
  rintro m T K ⟨t8, t7, hK⟩
  rw [hK]
  repeat' (first | refine spD (fun _ => ?_) (fun _ => ?_) | refine spF (fun _ => ?_) (fun _ => ?_) | (apply gT; (exact rfl)) | (apply off; (exact rfl); (exact rfl)) | (apply condT; (exact rfl)) | (apply condF; (exact rfl)) | ((first | (apply stp0; (exact rfl); (exact rfl)) | (apply stpN0; (exact rfl)) | apply gT | apply condT | ((first | apply bodyQ_d0 | apply bodyQ_d1 | apply bodyQ_d2 | apply bodyQ_d3 | apply bodyQ_d4); (exact .inr rfl); (rw [Try.results98]))); (first | (focus (simp only [go_sem, ↓reduceIte, simprocAttr, t8, t7] <;> rfl)) | exact rfl); (first | (fail_if_success (show okD _ _ _ _ _ _ _ _ _)) | (first | exact okT | exact okN | exact okE rfl)); (first | (fail_if_success (show Bel _ _)) | (focus first | exact .val _ | (simp [oneOf, Bel_iff_tup, Bel_iff_agg, Bel_iff_rsl, Bel_iff_fn, Bel_iff_rptr, Bel_val]; done)))) | refine thenQ_n ?_ | refine thenQ_r ?_ | refine thenQ_e ?_ | refine blockQ_n ?_ | refine blockQ_r ?_ | refine blockQ_e ?_ | (apply blockQ_o; (exact rfl)) | refine Awp.seq ?_ | refine Awp.skip ?_ | refine Awp.block ?_ | refine reg (fun s => false) ?_ | (apply drwE mixed (fun s => false); (kernel_rfl)) | refine fin ?_ | refine Awp.ret ?_ | refine Awp.exit ?_ | ((first | (apply off; (exact rfl)) | apply condF); (first | (focus (simp only [go_sem, ↓reduceIte, simprocAttr, t8, t7] <;> rfl)) | exact rfl)))
  all_goals first | contradiction | (exfalso; omega) | rfl | skip
set_option maxRecDepth 8000 in
theorem delete_emp (H : Hp) (f : FuncId) (cap : List AV) : CallsTo Try.prog 66 [.rsl [] true, .fn (.func f) cap] H (.rsl [] true) H := by
  have hi := index_emp H f cap
  refine ACalls.of_body Try.func66 rfl (by kernel_rfl) (by rw [Try.ntmps66]; simp) ?_; rw [Try.ntmps66]
  repeat' (first | refine spD (fun _ => ?_) (fun _ => ?_) | refine spF (fun _ => ?_) (fun _ => ?_) | (apply gT; (exact rfl)) | (apply off; (exact rfl); (exact rfl)) | (apply condT; (exact rfl)) | (apply condF; (exact rfl)) | ((first | (apply stp0; (exact rfl); (exact rfl)) | (apply stpN0; (exact rfl)) | apply gT | apply condT | ((first | apply bodyQ_d0 | apply bodyQ_d1 | apply bodyQ_d2 | apply bodyQ_d3 | apply bodyQ_d4); (exact .inr rfl); (rw [Try.results66]))); (first | (focus (simp only [go_sem, ↓reduceIte, simprocAttr] <;> rfl)) | exact rfl); (first | (fail_if_success (show okD _ _ _ _ _ _ _ _ _)) | (first | exact okT | exact okN | exact okE rfl)); (first | (fail_if_success (show Bel _ _)) | (focus first | exact .val _ | (simp [oneOf, Bel_iff_tup, Bel_iff_agg, Bel_iff_rsl, Bel_iff_fn, Bel_iff_rptr, Bel_val]; done)))) | (apply calTo0; (exact rfl); (iterate 2 (simp only [go_sem, ↓reduceIte, simprocAttr]; rfl)); (first | exact hi); (first | exact okT | exact okN | exact okE rfl)) | refine thenQ_n ?_ | refine thenQ_r ?_ | refine thenQ_e ?_ | refine blockQ_n ?_ | refine blockQ_r ?_ | refine blockQ_e ?_ | (apply blockQ_o; (exact rfl)) | refine Awp.seq ?_ | refine Awp.skip ?_ | refine Awp.block ?_ | refine reg (fun s => false) ?_ | (apply drwE mixed (fun s => false); (kernel_rfl)) | refine fin ?_ | refine Awp.ret ?_ | refine Awp.exit ?_ | ((first | (apply off; (exact rfl)) | apply condF); (first | (focus (simp only [go_sem, ↓reduceIte, simprocAttr] <;> rfl)) | exact rfl)))
  all_goals first | contradiction | (exfalso; omega) | rfl | skip

/-- what DeleteFunc does to a buffer -/
structure AckD (H : Hp) (F : Ft) (w : Rw) (S : Bf) (f : Int → Bool) (v1 : AV) (K1 : Hp) : Prop where
  st : AI H F w f S.L S.L.length K1
  ord : OrdAt K1 v1 (idsL (keepL f S.L))
  row : ∀ o m, v1 = .msl o 0 m → ∃ m', w.ord = .msl o 0 m'

theorem del_ok {H : Hp} {F : Ft} {w : Rw} {S : Bf} (hR : Rep H F w S) (hg : Good S) (s : List (Int × Int)) (ex : Bool) (hc : setC s = 0) (hm : s.length ≤ maxLen) :
    ACalls Try.prog 66 [w.ord, .fn (.func 67) [.rptr [.rsl (sps s) ex] 0, .rptr [.mptr F.b 0 0] 0]] H (AckD H F w S (isInB s)) := by
  have h0 : AI H F w (isInB s) S.L 0 H := ⟨⟨w, hR.raw, rfl, rfl, rfl, by rw [midL_zero, hR.used, hg.sum]; rfl, by rw [midL_zero]; exact hR.mr, by rw [midL_zero]; exact hR.ms, by rw [midL_zero]; exact hR.mt⟩, ⟨Nat.le_refl _, fun _ _ _ _ _ _ _ => rfl⟩⟩
  have hlm := hg.len
  have hO := hR.ord
  have hkid := keepL_ids (isInB s) S.L
  obtain ⟨ids, hids⟩ : ∃ ids, ids = idsL S.L := ⟨_, rfl⟩
  have hil : ids.length = S.L.length := by rw [hids]; simp [idsL]
  have hA := fun b hF => AI.asks (H := H) (w := w) (ex := ex) hc hm hg.nd hg.ok hg.len (b := b) (F := F) hF
  rw [← hids] at hO hkid hA
  obtain ⟨ord, hord⟩ : ∃ ord, ord = w.ord := ⟨_, rfl⟩
  rw [← hord] at hO ⊢
  cases hO with
  | nil =>
    have hL : S.L = [] := List.eq_nil_of_length_eq_zero (by rw [← hil]; rfl)
    refine ACalls.mono (delete_nil H _ _) fun v1 K1 ⟨e1, e2⟩ => ?_
    subst e1 e2
    refine ⟨by rw [hL] at h0 ⊢; exact h0, by rw [hkid]; exact .nil, fun o m e => by cases e⟩
  | emp =>
    have hL : S.L = [] := List.eq_nil_of_length_eq_zero (by rw [← hil]; rfl)
    refine ACalls.mono (delete_emp H _ _) fun v1 K1 ⟨e1, e2⟩ => ?_
    subst e1 e2
    refine ⟨by rw [hL] at h0 ⊢; exact h0, by rw [hkid]; exact .emp, fun o m e => by cases e⟩
  | row hb hn h0v =>
    rename_i o n v
    obtain ⟨l1, l2, l3, l4⟩ := hR.raw.lt
    have hne : o ≠ F.b ∧ o ≠ F.r ∧ o ≠ F.s ∧ o ≠ F.t := by
      refine ⟨fun e => ?_, fun e => ?_, fun e => ?_, fun e => ?_⟩ <;> subst e
      · have := hR.raw.hb; rw [hb] at this; simp at this
      · have := hR.raw.hr; rw [hb] at this; simp at this
      · have := hR.raw.hs; rw [hb] at this; simp at this
      · have := hR.raw.ht; rw [hb] at this; simp at this
    have hnl : n = S.L.length := by rw [← hil, List.length_take]; omega
    refine ACalls.mono (deleteI_ok hb hn (by simp only [maxLen]; omega) (hA o ⟨rfl, (List.getElem?_eq_some_iff.1 hb).1, hne⟩) (fun j K c h => AI.setRow hord.symm hne j K c h) h0) fun v1 K1 ⟨u', e1, hb1, hul, hut, hI⟩ => ?_
    refine ⟨by rw [← hnl]; exact hI, ?_, fun o' m e => ?_⟩
    · have hle : (keepI (isInB s) (v.take n)).length ≤ (v.take n).length := List.length_filter_le _ _
      rw [List.length_take] at hle
      have := OrdAt.row hb1 (show (keepI (isInB s) (v.take n)).length ≤ u'.length by omega) (by omega)
      rw [hkid, e1]
      rwa [hut] at this
    · rw [e1] at e; cases e; exact ⟨n, hord.symm⟩

end Go.Proofs.Ytlhchnnfgppneaa.Ab
