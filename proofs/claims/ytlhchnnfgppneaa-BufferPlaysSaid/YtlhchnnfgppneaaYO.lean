/- The program's Ack: what DeleteFunc does to a buffer. A region that draws its order, by an invariant, with calls whose ends are told by a property; the program's Ack. The program's Ack. maps.Clone: what it does to a world, and its contract. Copies of a buffer; new buffers. -/
import Derived.Test.YtlhchnnfgppneaaYN
import Derived.Test.YtlhchnnfgppneaaYF
import Derived.WalkSpells
namespace Go.Proofs.Ytlhchnnfgppneaa.Ab
open Go Go.RowKit Go.Proofs
set_option linter.unusedSimpArgs false
set_option linter.unusedVariables false
attribute [local irreducible] Awp wpO thenQ blockQ bodyQ ACalls stepA

theorem findH_mid {x : Hd} (y : Int) : ∀ (A B : List Hd), (idsL (A ++ x :: B)).Nodup → findH (A ++ B) y = if y = x.r.id then none else findH (A ++ x :: B) y := by
  intro A
  induction A with
  | nil =>
    intro B hn
    have hn' := List.nodup_cons.1 (show (x.r.id :: idsL B).Nodup from hn)
    show findH B y = if y = x.r.id then none else (if y = x.r.id then some x else findH B y)
    split
    · rename_i e; rw [e]; exact findH_none.2 hn'.1
    · rfl
  | cons h l ih =>
    intro B hn
    have hn' := List.nodup_cons.1 (show (h.r.id :: idsL (l ++ x :: B)).Nodup from hn)
    have hne : x.r.id ≠ h.r.id := fun e => hn'.1 (by rw [← e]; simp [idsL])
    show (if y = h.r.id then some h else findH (l ++ B) y) = if y = x.r.id then none else (if y = h.r.id then some h else findH (l ++ x :: B) y)
    rw [ih B hn'.2]
    by_cases k : y = h.r.id
    · rw [if_pos k, if_pos k, if_neg (by rw [k]; exact Ne.symm hne)]
    · rw [if_neg k, if_neg k]

def Bf.keep (f : Int → Bool) (S : Bf) : Bf := { S with used := sumH (keepL f S.L), L := keepL f S.L }
/-- what is held when the first j have been asked -/
def midL (f : Int → Bool) (L : List Hd) (j : Nat) : List Hd := keepL f (L.take j) ++ L.drop j
theorem midL_zero (f : Int → Bool) (L : List Hd) : midL f L 0 = L := by simp [midL, keepL]
theorem midL_all (f : Int → Bool) (L : List Hd) : midL f L L.length = keepL f L := by simp [midL]
theorem drop_at {L : List Hd} {j : Nat} {h : Hd} (hj : L[j]? = some h) : L.drop j = h :: L.drop (j + 1) := by
  rw [List.drop_eq_getElem_cons (List.getElem?_eq_some_iff.1 hj).1, (List.getElem?_eq_some_iff.1 hj).2]
theorem midL_at {f : Int → Bool} {L : List Hd} {j : Nat} {h : Hd} (hj : L[j]? = some h) : midL f L j = keepL f (L.take j) ++ h :: L.drop (j + 1) := by unfold midL; rw [drop_at hj]
theorem midL_succ {f : Int → Bool} {L : List Hd} {j : Nat} {h : Hd} (hj : L[j]? = some h) : midL f L (j + 1) = if f h.r.id then keepL f (L.take j) ++ L.drop (j + 1) else midL f L j := by
  rw [midL_at hj]
  unfold midL
  rw [keepL_succ hj]
  split
  · rfl
  · rw [List.append_assoc]; rfl
theorem midL_sub (f : Int → Bool) (L : List Hd) (j : Nat) : (midL f L j).Sublist L := by
  conv => rhs; rw [← List.take_append_drop j L]
  exact (List.filter_sublist).append_right _
theorem idsL_sub {A B : List Hd} (h : A.Sublist B) : (idsL A).Sublist (idsL B) := h.map _
theorem keepL_ids (f : Int → Bool) (L : List Hd) : idsL (keepL f L) = keepI f (idsL L) := by
  unfold idsL keepL keepI
  rw [List.filter_map]; rfl
theorem sumH_mid (A B : List Hd) (x : Hd) : sumH (A ++ x :: B) = sumH (A ++ B) + x.bytes := by
  unfold sumH
  simp only [List.map_append, List.map_cons, List.sum_append, List.sum_cons]; omega
theorem Good.keepG {f : Int → Bool} {S : Bf} (h : Good S) : Good (S.keep f) := by
  have hs : (keepL f S.L).Sublist S.L := List.filter_sublist
  exact ⟨(idsL_sub hs).nodup h.nd, fun x hx => h.ok x (hs.subset hx), rfl, Nat.le_trans hs.length_le h.len, h.cap, h.srt.sublist hs⟩

/-- between two questions -/
structure AI (H : Hp) (F : Ft) (w : Rw) (f : Int → Bool) (L : List Hd) (j : Nat) (K : Hp) : Prop where
  ex : ∃ w', RepW K F w' ∧ w'.cap = w.cap ∧ w'.time = w.time ∧ w'.ord = w.ord ∧ w'.used = sumH (midL f L j) ∧ MapIs w'.kr (recF (midL f L j)) ∧ MapIs w'.ks (smF (midL f L j)) ∧ MapIs w'.kt (stF (midL f L j))
  fr : FrO F w H K

theorem AI.asks {H : Hp} {F : Ft} {w : Rw} {L : List Hd} {s : List (Int × Int)} {ex : Bool} (hc : setC s = 0) (hm : s.length ≤ maxLen) (hnd : (idsL L).Nodup) (hok : ∀ h ∈ L, h.r.ok) (hl : L.length ≤ 257) {b : Nat} (hF : H[b]? = H[b]? ∧ b < H.length ∧ b ≠ F.b ∧ b ≠ F.r ∧ b ≠ F.s ∧ b ≠ F.t) :
    AsksI 67 [.rptr [.rsl (sps s) ex] 0, .rptr [.mptr F.b 0 0] 0] b (idsL L) (isInB s) (AI H F w (isInB s) L) := by
  intro j x K hx hI
  obtain ⟨⟨w', hR, h1, h2, h3, h4, q1, q2, q3⟩, hfr⟩ := hI
  obtain ⟨h, hh, rfl⟩ : ∃ h, L[j]? = some h ∧ h.r.id = x := by
    unfold idsL at hx
    rw [List.getElem?_map, Option.map_eq_some_iff] at hx
    exact hx
  have hma := midL_at (f := isInB s) hh
  have hms := midL_succ (f := isInB s) hh
  have hmn : (idsL (midL (isInB s) L j)).Nodup := (idsL_sub (midL_sub _ _ _)).nodup hnd
  have hmj : (midL (isInB s) L j)[(keepL (isInB s) (L.take j)).length]? = some h := by rw [hma]; simp
  have hfx := findH_at hmn hmj
  have hk1 : (getM w'.kr h.r.id).getD recZ = .agg h.r.cs := by rw [q1.get]; unfold recF; rw [hfx]; rfl
  have hk2 : (getM w'.ks h.r.id).getD (iv 0) = iv (if h.sm then 1 else 0) := by rw [q2.get]; unfold smF; rw [hfx]; cases e : h.sm <;> simp [e]
  have hby : (if (if h.sm then (1 : Int) else 0) > 0 then h.r.pk else h.r.size) = h.bytes := by unfold Hd.bytes; cases e : h.sm <;> simp
  have hs1 := sumH_in (midL (isInB s) L j) (fun y hy => hok y ((midL_sub _ _ _).subset hy))
  have hs2 := (midL_sub (isInB s) L j).length_le
  have hokh := hok h (List.mem_of_getElem? hh)
  have hbd : 1 ≤ h.bytes ∧ h.bytes ≤ 16777216 := by
    simp only [Item.ok] at hokh
    unfold Hd.bytes; split <;> omega
  have hA := ack1_ok hR s ex hc hm h.r.id h.r (if h.sm then 1 else 0) hk1 hk2 (by rw [hby, h4]; omega)
  rw [hby] at hA
  refine ACalls.mono hA fun v1 K1 ⟨hv, ht, hf⟩ => ⟨hv, ?_, ?_⟩
  · cases e : isInB s h.r.id with
    | true =>
      have := (ht e).2
      exact this.old b (Nat.lt_of_lt_of_le hF.2.1 hfr.len) hF.2.2.1 hF.2.2.2.1 hF.2.2.2.2.1 hF.2.2.2.2.2
    | false => rw [hf e]
  · cases e : isInB s h.r.id with
    | true =>
      obtain ⟨hR1, hF1⟩ := ht e
      rw [e, if_pos rfl] at hms
      rw [hma] at q1 q2 q3 h4 hmn
      rw [sumH_mid] at h4
      refine ⟨⟨_, hR1, h1, h2, h3, ?_, ?_, ?_, ?_⟩, hfr.trans hF1⟩
      · rw [hms]; show w'.used - h.bytes = _; omega
      · rw [hms]; exact q1.del _ fun y => by unfold recF; rw [findH_mid y _ _ hmn]; split <;> rfl
      · rw [hms]; exact q2.del _ fun y => by unfold smF; rw [findH_mid y _ _ hmn]; split <;> rfl
      · rw [hms]; exact q3.del _ fun y => by unfold stF; rw [findH_mid y _ _ hmn]; split <;> rfl
    | false =>
      rw [e, if_neg (by simp)] at hms
      rw [hf e]
      refine ⟨⟨w', hR, h1, h2, h3, ?_, ?_, ?_, ?_⟩, hfr⟩ <;> rw [hms] <;> assumption

theorem AI.setRow {H : Hp} {F : Ft} {w : Rw} {f : Int → Bool} {L : List Hd} {b m : Nat} (ho : w.ord = .msl b 0 m) (hF : b ≠ F.b ∧ b ≠ F.r ∧ b ≠ F.s ∧ b ≠ F.t) (j : Nat) (K : Hp) (c : AObj) (h : AI H F w f L j K) : AI H F w f L j (K.set b c) := by
  obtain ⟨⟨w', hR, h⟩, hfr⟩ := h
  refine ⟨⟨w', ⟨?_, ?_, ?_, ?_, hR.rs, hR.rt, hR.st⟩, h⟩, ⟨by rw [List.length_set]; exact hfr.len, fun i hi a1 a2 a3 a4 a5 => ?_⟩⟩
  · rw [List.getElem?_set_ne hF.1]; exact hR.hb
  · rw [List.getElem?_set_ne hF.2.1]; exact hR.hr
  · rw [List.getElem?_set_ne hF.2.2.1]; exact hR.hs
  · rw [List.getElem?_set_ne hF.2.2.2]; exact hR.ht
  · rw [List.getElem?_set_ne (fun e => a5 m (by rw [ho, e]))]; exact hfr.old i hi a1 a2 a3 a4 a5

set_option maxRecDepth 8000 in
theorem index_nil (H : Hp) (f : FuncId) (cap : List AV) : CallsTo Try.prog 98 [nilS, .fn (.func f) cap] H (iv (-1)) H := by
  refine ACalls.of_body Try.func98 rfl (by kernel_rfl) (by rw [Try.ntmps98]; simp) ?_; rw [Try.ntmps98]
  repeat' (first | refine spD (fun _ => ?_) (fun _ => ?_) | refine spF (fun _ => ?_) (fun _ => ?_) | (apply gT; (exact rfl)) | (apply off; (exact rfl); (exact rfl)) | (apply condT; (exact rfl)) | (apply condF; (exact rfl)) | ((first | (apply stp0; (exact rfl); (exact rfl)) | (apply stpN0; (exact rfl)) | apply gT | apply condT | ((first | apply bodyQ_d0 | apply bodyQ_d1 | apply bodyQ_d2 | apply bodyQ_d3 | apply bodyQ_d4); (exact .inr rfl); (rw [Try.results98]))); (first | (focus (simp only [go_sem, ↓reduceIte, simprocAttr] <;> rfl)) | exact rfl); (first | (fail_if_success (show okD _ _ _ _ _ _ _ _ _)) | (first | exact okT | exact okN | exact okE rfl)); (first | (fail_if_success (show Bel _ _)) | (focus first | exact .val _ | (simp [oneOf, Bel_iff_tup, Bel_iff_agg, Bel_iff_rsl, Bel_iff_fn, Bel_iff_rptr, Bel_val]; done)))) | refine thenQ_n ?_ | refine thenQ_r ?_ | refine thenQ_e ?_ | refine blockQ_n ?_ | refine blockQ_r ?_ | refine blockQ_e ?_ | (apply blockQ_o; (exact rfl)) | refine Awp.seq ?_ | refine Awp.skip ?_ | refine Awp.block ?_ | refine reg (fun s => false) ?_ | (apply drwE mixed (fun s => false); (kernel_rfl)) | refine fin ?_ | refine Awp.ret ?_ | refine Awp.exit ?_ | ((first | (apply off; (exact rfl)) | apply condF); (first | (focus (simp only [go_sem, ↓reduceIte, simprocAttr] <;> rfl)) | exact rfl)))
  refine Awp.loop (ι := Nat) (fun _ T' K => T' 8 = iv 0 ∧ T' 7 = iv 0 ∧ K = H) (fun m => m) 0 ?_ ?_
  · refine ⟨?_, ?_, rfl⟩
    · (first | (focus (simp only [go_sem, ↓reduceIte, simprocAttr]; first | done | rfl)) | rfl)
    · (first | (focus (simp only [go_sem, ↓reduceIte, simprocAttr]; first | done | rfl)) | rfl)
  rintro m T K ⟨t8, t7, hK⟩
  rw [hK]
  repeat' (first | refine spD (fun _ => ?_) (fun _ => ?_) | refine spF (fun _ => ?_) (fun _ => ?_) | (apply gT; (exact rfl)) | (apply off; (exact rfl); (exact rfl)) | (apply condT; (exact rfl)) | (apply condF; (exact rfl)) | ((first | (apply stp0; (exact rfl); (exact rfl)) | (apply stpN0; (exact rfl)) | apply gT | apply condT | ((first | apply bodyQ_d0 | apply bodyQ_d1 | apply bodyQ_d2 | apply bodyQ_d3 | apply bodyQ_d4); (exact .inr rfl); (rw [Try.results98]))); (first | (focus (simp only [go_sem, ↓reduceIte, simprocAttr, t8, t7] <;> rfl)) | exact rfl); (first | (fail_if_success (show okD _ _ _ _ _ _ _ _ _)) | (first | exact okT | exact okN | exact okE rfl)); (first | (fail_if_success (show Bel _ _)) | (focus first | exact .val _ | (simp [oneOf, Bel_iff_tup, Bel_iff_agg, Bel_iff_rsl, Bel_iff_fn, Bel_iff_rptr, Bel_val]; done)))) | refine thenQ_n ?_ | refine thenQ_r ?_ | refine thenQ_e ?_ | refine blockQ_n ?_ | refine blockQ_r ?_ | refine blockQ_e ?_ | (apply blockQ_o; (exact rfl)) | refine Awp.seq ?_ | refine Awp.skip ?_ | refine Awp.block ?_ | refine reg (fun s => false) ?_ | (apply drwE mixed (fun s => false); (kernel_rfl)) | refine fin ?_ | refine Awp.ret ?_ | refine Awp.exit ?_ | ((first | (apply off; (exact rfl)) | apply condF); (first | (focus (simp only [go_sem, ↓reduceIte, simprocAttr, t8, t7] <;> rfl)) | exact rfl)))
  all_goals first | contradiction | (exfalso; omega) | rfl | skip
set_option maxRecDepth 8000 in
theorem delete_nil (H : Hp) (f : FuncId) (cap : List AV) : CallsTo Try.prog 66 [nilS, .fn (.func f) cap] H nilS H := by
  have hi := index_nil H f cap
  refine ACalls.of_body Try.func66 rfl (by kernel_rfl) (by rw [Try.ntmps66]; simp) ?_; rw [Try.ntmps66]
  repeat' (first | refine spD (fun _ => ?_) (fun _ => ?_) | refine spF (fun _ => ?_) (fun _ => ?_) | (apply gT; (exact rfl)) | (apply off; (exact rfl); (exact rfl)) | (apply condT; (exact rfl)) | (apply condF; (exact rfl)) | ((first | (apply stp0; (exact rfl); (exact rfl)) | (apply stpN0; (exact rfl)) | apply gT | apply condT | ((first | apply bodyQ_d0 | apply bodyQ_d1 | apply bodyQ_d2 | apply bodyQ_d3 | apply bodyQ_d4); (exact .inr rfl); (rw [Try.results66]))); (first | (focus (simp only [go_sem, ↓reduceIte, simprocAttr] <;> rfl)) | exact rfl); (first | (fail_if_success (show okD _ _ _ _ _ _ _ _ _)) | (first | exact okT | exact okN | exact okE rfl)); (first | (fail_if_success (show Bel _ _)) | (focus first | exact .val _ | (simp [oneOf, Bel_iff_tup, Bel_iff_agg, Bel_iff_rsl, Bel_iff_fn, Bel_iff_rptr, Bel_val]; done)))) | (apply calTo0; (exact rfl); (iterate 2 (simp only [go_sem, ↓reduceIte, simprocAttr]; rfl)); (first | exact hi); (first | exact okT | exact okN | exact okE rfl)) | refine thenQ_n ?_ | refine thenQ_r ?_ | refine thenQ_e ?_ | refine blockQ_n ?_ | refine blockQ_r ?_ | refine blockQ_e ?_ | (apply blockQ_o; (exact rfl)) | refine Awp.seq ?_ | refine Awp.skip ?_ | refine Awp.block ?_ | refine reg (fun s => false) ?_ | (apply drwE mixed (fun s => false); (kernel_rfl)) | refine fin ?_ | refine Awp.ret ?_ | refine Awp.exit ?_ | ((first | (apply off; (exact rfl)) | apply condF); (first | (focus (simp only [go_sem, ↓reduceIte, simprocAttr] <;> rfl)) | exact rfl)))
  all_goals first | contradiction | (exfalso; omega) | rfl | skip

set_option maxRecDepth 8000 in
theorem index_emp (H : Hp) (f : FuncId) (cap : List AV) : CallsTo Try.prog 98 [.rsl [] true, .fn (.func f) cap] H (iv (-1)) H := by
  refine ACalls.of_body Try.func98 rfl (by kernel_rfl) (by rw [Try.ntmps98]; simp) ?_; rw [Try.ntmps98]
  repeat' (first | refine spD (fun _ => ?_) (fun _ => ?_) | refine spF (fun _ => ?_) (fun _ => ?_) | (apply gT; (exact rfl)) | (apply off; (exact rfl); (exact rfl)) | (apply condT; (exact rfl)) | (apply condF; (exact rfl)) | ((first | (apply stp0; (exact rfl); (exact rfl)) | (apply stpN0; (exact rfl)) | apply gT | apply condT | ((first | apply bodyQ_d0 | apply bodyQ_d1 | apply bodyQ_d2 | apply bodyQ_d3 | apply bodyQ_d4); (exact .inr rfl); (rw [Try.results98]))); (first | (focus (simp only [go_sem, ↓reduceIte, simprocAttr] <;> rfl)) | exact rfl); (first | (fail_if_success (show okD _ _ _ _ _ _ _ _ _)) | (first | exact okT | exact okN | exact okE rfl)); (first | (fail_if_success (show Bel _ _)) | (focus first | exact .val _ | (simp [oneOf, Bel_iff_tup, Bel_iff_agg, Bel_iff_rsl, Bel_iff_fn, Bel_iff_rptr, Bel_val]; done)))) | refine thenQ_n ?_ | refine thenQ_r ?_ | refine thenQ_e ?_ | refine blockQ_n ?_ | refine blockQ_r ?_ | refine blockQ_e ?_ | (apply blockQ_o; (exact rfl)) | refine Awp.seq ?_ | refine Awp.skip ?_ | refine Awp.block ?_ | refine reg (fun s => false) ?_ | (apply drwE mixed (fun s => false); (kernel_rfl)) | refine fin ?_ | refine Awp.ret ?_ | refine Awp.exit ?_ | ((first | (apply off; (exact rfl)) | apply condF); (first | (focus (simp only [go_sem, ↓reduceIte, simprocAttr] <;> rfl)) | exact rfl)))
  refine Awp.loop (ι := Nat) (fun _ T' K => T' 8 = iv 0 ∧ T' 7 = iv 0 ∧ K = H) (fun m => m) 0 ?_ ?_
  · refine ⟨?_, ?_, rfl⟩
    · (first | (focus (simp only [go_sem, ↓reduceIte, simprocAttr]; first | done | rfl)) | rfl)
    · (first | (focus (simp only [go_sem, ↓reduceIte, simprocAttr]; first | done | rfl)) | rfl)
  rintro m T K ⟨t8, t7, hK⟩
  rw [hK]
  repeat' (first | refine spD (fun _ => ?_) (fun _ => ?_) | refine spF (fun _ => ?_) (fun _ => ?_) | (apply gT; (exact rfl)) | (apply off; (exact rfl); (exact rfl)) | (apply condT; (exact rfl)) | (apply condF; (exact rfl)) | ((first | (apply stp0; (exact rfl); (exact rfl)) | (apply stpN0; (exact rfl)) | apply gT | apply condT | ((first | apply bodyQ_d0 | apply bodyQ_d1 | apply bodyQ_d2 | apply bodyQ_d3 | apply bodyQ_d4); (exact .inr rfl); (rw [Try.results98]))); (first | (focus (simp only [go_sem, ↓reduceIte, simprocAttr, t8, t7] <;> rfl)) | exact rfl); (first | (fail_if_success (show okD _ _ _ _ _ _ _ _ _)) | (first | exact okT | exact okN | exact okE rfl)); (first | (fail_if_success (show Bel _ _)) | (focus first | exact .val _ | (simp [oneOf, Bel_iff_tup, Bel_iff_agg, Bel_iff_rsl, Bel_iff_fn, Bel_iff_rptr, Bel_val]; done)))) | refine thenQ_n ?_ | refine thenQ_r ?_ | refine thenQ_e ?_ | refine blockQ_n ?_ | refine blockQ_r ?_ | refine blockQ_e ?_ | (apply blockQ_o; (exact rfl)) | refine Awp.seq ?_ | refine Awp.skip ?_ | refine Awp.block ?_ | refine reg (fun s => false) ?_ | (apply drwE mixed (fun s => false); (kernel_rfl)) | refine fin ?_ | refine Awp.ret ?_ | refine Awp.exit ?_ | ((first | (apply off; (exact rfl)) | apply condF); (first | (focus (simp only [go_sem, ↓reduceIte, simprocAttr, t8, t7] <;> rfl)) | exact rfl)))
  all_goals first | contradiction | (exfalso; omega) | rfl | skip
set_option maxRecDepth 8000 in
theorem delete_emp (H : Hp) (f : FuncId) (cap : List AV) : CallsTo Try.prog 66 [.rsl [] true, .fn (.func f) cap] H (.rsl [] true) H := by
  have hi := index_emp H f cap
  refine ACalls.of_body Try.func66 rfl (by kernel_rfl) (by rw [Try.ntmps66]; simp) ?_; rw [Try.ntmps66]
  repeat' (first | refine spD (fun _ => ?_) (fun _ => ?_) | refine spF (fun _ => ?_) (fun _ => ?_) | (apply gT; (exact rfl)) | (apply off; (exact rfl); (exact rfl)) | (apply condT; (exact rfl)) | (apply condF; (exact rfl)) | ((first | (apply stp0; (exact rfl); (exact rfl)) | (apply stpN0; (exact rfl)) | apply gT | apply condT | ((first | apply bodyQ_d0 | apply bodyQ_d1 | apply bodyQ_d2 | apply bodyQ_d3 | apply bodyQ_d4); (exact .inr rfl); (rw [Try.results66]))); (first | (focus (simp only [go_sem, ↓reduceIte, simprocAttr] <;> rfl)) | exact rfl); (first | (fail_if_success (show okD _ _ _ _ _ _ _ _ _)) | (first | exact okT | exact okN | exact okE rfl)); (first | (fail_if_success (show Bel _ _)) | (focus first | exact .val _ | (simp [oneOf, Bel_iff_tup, Bel_iff_agg, Bel_iff_rsl, Bel_iff_fn, Bel_iff_rptr, Bel_val]; done)))) | (apply calTo0; (exact rfl); (iterate 2 (simp only [go_sem, ↓reduceIte, simprocAttr]; rfl)); (first | exact hi); (first | exact okT | exact okN | exact okE rfl)) | refine thenQ_n ?_ | refine thenQ_r ?_ | refine thenQ_e ?_ | refine blockQ_n ?_ | refine blockQ_r ?_ | refine blockQ_e ?_ | (apply blockQ_o; (exact rfl)) | refine Awp.seq ?_ | refine Awp.skip ?_ | refine Awp.block ?_ | refine reg (fun s => false) ?_ | (apply drwE mixed (fun s => false); (kernel_rfl)) | refine fin ?_ | refine Awp.ret ?_ | refine Awp.exit ?_ | ((first | (apply off; (exact rfl)) | apply condF); (first | (focus (simp only [go_sem, ↓reduceIte, simprocAttr] <;> rfl)) | exact rfl)))
  all_goals first | contradiction | (exfalso; omega) | rfl | skip

/-- what DeleteFunc does to a buffer -/
structure AckD (H : Hp) (F : Ft) (w : Rw) (S : Bf) (f : Int → Bool) (v1 : AV) (K1 : Hp) : Prop where
  st : AI H F w f S.L S.L.length K1
  ord : OrdAt K1 v1 (idsL (keepL f S.L))
  row : ∀ o m, v1 = .msl o 0 m → ∃ m', w.ord = .msl o 0 m'

theorem del_ok {H : Hp} {F : Ft} {w : Rw} {S : Bf} (hR : Rep H F w S) (hg : Good S) (s : List (Int × Int)) (ex : Bool) (hc : setC s = 0) (hm : s.length ≤ maxLen) :
    ACalls Try.prog 66 [w.ord, .fn (.func 67) [.rptr [.rsl (sps s) ex] 0, .rptr [.mptr F.b 0 0] 0]] H (AckD H F w S (isInB s)) := by
  have h0 : AI H F w (isInB s) S.L 0 H := ⟨⟨w, hR.raw, rfl, rfl, rfl, by rw [midL_zero, hR.used, hg.sum]; rfl, by rw [midL_zero]; exact hR.mr, by rw [midL_zero]; exact hR.ms, by rw [midL_zero]; exact hR.mt⟩, ⟨Nat.le_refl _, fun _ _ _ _ _ _ _ => rfl⟩⟩
  have hlm := hg.len
  have hO := hR.ord
  have hkid := keepL_ids (isInB s) S.L
  obtain ⟨ids, hids⟩ : ∃ ids, ids = idsL S.L := ⟨_, rfl⟩
  have hil : ids.length = S.L.length := by rw [hids]; simp [idsL]
  have hA := fun b hF => AI.asks (H := H) (w := w) (ex := ex) hc hm hg.nd hg.ok hg.len (b := b) (F := F) hF
  rw [← hids] at hO hkid hA
  obtain ⟨ord, hord⟩ : ∃ ord, ord = w.ord := ⟨_, rfl⟩
  rw [← hord] at hO ⊢
  cases hO with
  | nil =>
    have hL : S.L = [] := List.eq_nil_of_length_eq_zero (by rw [← hil]; rfl)
    refine ACalls.mono (delete_nil H _ _) fun v1 K1 ⟨e1, e2⟩ => ?_
    subst e1 e2
    refine ⟨by rw [hL] at h0 ⊢; exact h0, by rw [hkid]; exact .nil, fun o m e => by cases e⟩
  | emp =>
    have hL : S.L = [] := List.eq_nil_of_length_eq_zero (by rw [← hil]; rfl)
    refine ACalls.mono (delete_emp H _ _) fun v1 K1 ⟨e1, e2⟩ => ?_
    subst e1 e2
    refine ⟨by rw [hL] at h0 ⊢; exact h0, by rw [hkid]; exact .emp, fun o m e => by cases e⟩
  | row hb hn h0v =>
    rename_i o n v
    obtain ⟨l1, l2, l3, l4⟩ := hR.raw.lt
    have hne : o ≠ F.b ∧ o ≠ F.r ∧ o ≠ F.s ∧ o ≠ F.t := by
      refine ⟨fun e => ?_, fun e => ?_, fun e => ?_, fun e => ?_⟩ <;> subst e
      · have := hR.raw.hb; rw [hb] at this; simp at this
      · have := hR.raw.hr; rw [hb] at this; simp at this
      · have := hR.raw.hs; rw [hb] at this; simp at this
      · have := hR.raw.ht; rw [hb] at this; simp at this
    have hnl : n = S.L.length := by rw [← hil, List.length_take]; omega
    refine ACalls.mono (deleteI_ok hb hn (by simp only [maxLen]; omega) (hA o ⟨rfl, (List.getElem?_eq_some_iff.1 hb).1, hne⟩) (fun j K c h => AI.setRow hord.symm hne j K c h) h0) fun v1 K1 ⟨u', e1, hb1, hul, hut, hI⟩ => ?_
    refine ⟨by rw [← hnl]; exact hI, ?_, fun o' m e => ?_⟩
    · have hle : (keepI (isInB s) (v.take n)).length ≤ (v.take n).length := List.length_filter_le _ _
      rw [List.length_take] at hle
      have := OrdAt.row hb1 (show (keepI (isInB s) (v.take n)).length ≤ u'.length by omega) (by omega)
      rw [hkid, e1]
      rwa [hut] at this
    · rw [e1] at e; cases e; exact ⟨n, hord.symm⟩

end Go.Proofs.Ytlhchnnfgppneaa.Ab
namespace Go.Proofs.Ytlhchnnfgppneaa.Ab
open Go Go.RowKit

section
variable {P : Program} {n : Nat} {rd : Option Nat} {ops : Array Oper} {mu : Nat → Bool} {Q : Exit → Env → Hp → Prop} {T : Env} {H : Hp}

/-- one step of an order -/
def InvStepO (P : Program) (I : (Nat → Bool) → Env → Hp → Prop) (i : Nat) (o : Oper) : Prop :=
  ∀ L T H, L i = false → (o.after.toList.all fun e => !Region.binds .any e || L e.on) = true → I L T H → OpOK P o T H fun v H' => I (setL L i) (putA T o.dst v) H'

theorem inv_soundO (hok : invOk n ops = true) {I : (Nat → Bool) → Env → Hp → Prop} (hs : AllIx (InvStepO P I) 0 ops.toList) (hq : ∀ L T H, (∀ i, i < ops.size → L i = true) → I L T H → Q .normal T H)
    {base : Nat} {w0 : World} {r : Option Nat} {X : Exit → Act → World → Prop} {ds : List Deferred} {g0 : Gh}
    (hX : ∀ T' H' g' a' w', Q .normal T' H' → g0.le g' → Sim base w0 g' H' w' → TRel g' n T' a'.tmps → a'.defers = ds → X .normal a' w') :
    ∀ (fuel : Nat) (listed : Array Bool) (T : Env) (H : Hp) (g : Gh) (w : World) (a : Act), listed.size = ops.size → RoomInvL ops listed fuel → I (fun i => listed.getD i false) T H → g0.le g → Sim base w0 g H w → TRel g n T a.tmps → a.defers = ds →
      wpAnyIn (FR r) 0 P .any ops X fuel listed a w := by
  have hend : ∀ (fuel : Nat) (listed : Array Bool) (T : Env) (H : Hp) (g : Gh) (w : World) (a : Act), listed.size = ops.size → Region.ready .any ops listed = [] → I (fun i => listed.getD i false) T H → g0.le g → Sim base w0 g H w → TRel g n T a.tmps → a.defers = ds →
      wpAnyIn (FR r) 0 P .any ops X fuel listed a w := by
    intro fuel listed T H g w a hsz hr hI hg S hT hd
    refine wpAnyIn_done hr (hX T H g a w (hq _ _ _ (fun i => ?_) hI) hg S hT hd) _
    induction i using Nat.strongRecOn with
    | _ i ih =>
      intro hi
      cases hl : listed.getD i false with
      | true => rfl
      | false =>
        exfalso
        have ho : ops[i]? = some ops[i] := Array.getElem?_eq_getElem hi
        have : i ∈ Region.ready .any ops listed := by
          rw [mem_ready]
          refine ⟨?_, ops[i], ho, fun e he hb => ih e.on ((invOk_spec hok ho).2.2 e he hb) (by have := (invOk_spec hok ho).2.2 e he hb; omega)⟩
          rw [Array.getD_eq_getD_getElem?, Array.getElem?_eq_getElem (by omega), Option.getD_some] at hl ⊢
          exact hl
        rw [hr] at this; cases this
  intro fuel
  induction fuel with
  | zero =>
    intro listed T H g w a hsz hroom hI hg S hT hd
    refine hend 0 listed T H g w a hsz ?_ hI hg S hT hd
    cases hr : Region.ready .any ops listed with
    | nil => rfl
    | cons i rs =>
      have hi : i ∈ Region.ready .any ops listed := by rw [hr]; simp
      obtain ⟨h1, h2, _⟩ := readyInvL hsz hi
      have := hroom [i] (by simp) (by intro j hj; simp at hj; subst hj; exact ⟨h1, h2⟩)
      simp at this
  | succ fuel ih =>
    intro listed T H g w a hsz hroom hI hg S hT hd
    by_cases hr : Region.ready .any ops listed = []
    · exact hend _ listed T H g w a hsz hr hI hg S hT hd
    · refine wpAnyIn_all rfl hr fun i hi => ?_
      obtain ⟨hlt, hli, o, ho, hedges⟩ := readyInvL hsz hi
      obtain ⟨hgd, hdst, _⟩ := invOk_spec hok ho
      have hst := AllIx.get hs (i := i) (o := o) (by simpa using ho)
      rw [Nat.zero_add] at hst
      have hp := hst (fun i => listed.getD i false) T H hli (by
        rw [List.all_eq_true]
        intro e he
        cases hb : Region.binds .any e with
        | false => rfl
        | true => simpa using hedges e (by simpa using he) hb) hI
      unfold wpOpIn
      rw [ho]
      simp only
      rw [if_pos (by unfold Region.wanted; rw [hgd])]
      have hput : ∀ z, (a.put o.dst z).defers = a.defers := by intro z; cases o.dst <;> rfl
      refine hp base w0 g w a r S (fun x _ => evA_rel hT x) _ _ (fun v1 z H1 g' w' hI' hg' S' hR => ?_)
      refine ih _ (putA T o.dst v1) H1 g' w' _ (by simpa using hsz) ?_ ?_ (hg.trans hg') S' ((hT.mono hg').put hdst hR) (by rw [hput]; exact hd)
      · intro Z hZ hk
        have := hroom (i :: Z) (List.nodup_cons.2 ⟨fun hm => by have := (hk i hm).2; rw [setInvL hsz hlt] at this; simp [setL] at this, hZ⟩) (fun k hkm => by
          rcases List.mem_cons.1 hkm with rfl | hkm
          · exact ⟨hlt, hli⟩
          · have h1 := hk k hkm
            refine ⟨h1.1, ?_⟩
            have h2 := h1.2
            rw [setInvL hsz hlt] at h2
            unfold setL at h2
            by_cases hki : k = i
            · rw [if_pos hki] at h2; cases h2
            · rw [if_neg hki] at h2; exact h2)
        simp at this
        omega
      · have e : (fun j => (listed.setIfInBounds i true).getD j false) = setL (fun j => listed.getD j false) i := funext fun j => setInvL hsz hlt j
        rw [e]; exact hI'

/-- a region that draws its order, by an invariant over what has been done -/
theorem Awp.anyInvO {id : Nat} (hm : P.follows .mixedOrders = true) (I : (Nat → Bool) → Env → Hp → Prop) (hok : invOk n ops = true) (h0 : I (fun _ => false) T H) (hs : AllIx (InvStepO P I) 0 ops.toList)
    (hq : ∀ L T H, (∀ i, i < ops.size → L i = true) → I L T H → Q .normal T H) : Awp P n rd (.region id ops true) T H Q := by
  intro base w0 g w a r S hT hr
  refine wpIn_region_any hm ?_
  refine inv_soundO hok hs hq (g0 := g) (ds := a.defers) (fun T' H' g' a' w' hq hg' S' hT' hd => ⟨T', H', g', [], hq, hg', S', hT', hd, Marks.nil _ _⟩) ops.size (Array.replicate ops.size false) T H g _ a (by simp) ?_ ?_ (Gh.le.refl g) S.drew hT rfl
  · intro Z hZ hk
    exact nodup_le _ Z hZ fun k hk' => (hk k hk').1
  · have e : (fun i => (Array.replicate ops.size false).getD i false) = fun _ => false := by
      funext i
      rw [Array.getD_eq_getD_getElem?, Array.getElem?_replicate]
      split <;> rfl
    rw [e]; exact h0

end

end Go.Proofs.Ytlhchnnfgppneaa.Ab
namespace Go.Proofs.Ytlhchnnfgppneaa.Ab
open Go Go.RowKit Go.Proofs
set_option linter.unusedSimpArgs false
set_option linter.unusedVariables false
attribute [local irreducible] Awp wpO thenQ blockQ bodyQ ACalls stepA

theorem OrdAt.shape {H : Hp} {a : AV} {ids : List Int} (h : OrdAt H a ids) : ((a = nilS ∨ a = .rsl [] true) ∧ ids = []) ∨ ∃ o m, a = .msl o 0 m ∧ m = ids.length := by
  cases h with
  | nil => exact .inl ⟨.inl rfl, rfl⟩
  | emp => exact .inl ⟨.inr rfl, rfl⟩
  | row hb hn h0 => exact .inr ⟨_, _, rfl, by rw [List.length_take]; omega⟩

/-- what Ack comes to -/
structure AckP (H : Hp) (F : Ft) (w : Rw) (S : Bf) (f : Int → Bool) (K : Hp) (w' : Rw) : Prop where
  rep : Rep K F w' (S.keep f)
  fr : FrO F w H K
  row : ∀ o m, w'.ord = .msl o 0 m → ∃ m', w.ord = .msl o 0 m'

theorem AckD.store {H K : Hp} {F : Ft} {w : Rw} {S : Bf} {f : Int → Bool} {a : AV} (hR : Rep H F w S) (h : AckD H F w S f a K) :
    ∃ cs w', K[F.b]? = some (.cells [cs] 109) ∧ cs.length = 7 ∧ AckP H F w S f (K.set F.b (.cells [cs.set 3 a] 109)) w' := by
  obtain ⟨⟨⟨w1, hR1, h1, h2, h3, h4, q1, q2, q3⟩, hfr⟩, hO, hrow⟩ := h
  rw [midL_all] at h4 q1 q2 q3
  obtain ⟨R2, F2⟩ := hR1.setB w1.used w1.time a
  have hb := hR1.hb
  simp only [Rw.cs] at hb
  refine ⟨_, _, hb, rfl, ⟨R2, h1.trans hR.cap, h4, h2.trans hR.time, ?_, q1, q2, q3⟩, hfr.trans F2, hrow⟩
  exact hO.set hb (by intro v e; simp at e) _

structure Inv7 (H : Hp) (F : Ft) (w : Rw) (S : Bf) (s : List (Int × Int)) (ex : Bool) (n : Nat) (L : Nat → Bool) (T : Env) (K : Hp) : Prop where
  t2 : T 2 = .rptr [.mptr F.b 0 0] 0
  t3 : T 3 = .rptr [.rsl (sps s) ex] 0
  t7 : T 7 = iv n
  i0 : L 0 = true → T 21 = .mptr F.b 0 0
  i1 : L 1 = true → T 22 = .mptr F.b 0 0
  i2 : L 2 = true → T 23 = .mptr F.b 0 0
  i3 : L 3 = true → T 24 = .mptr F.b 0 3
  i4 : L 4 = true → T 25 = w.ord
  i5 : L 5 = true → T 26 = .fn (.func 67) [.rptr [.rsl (sps s) ex] 0, .rptr [.mptr F.b 0 0] 0]
  i7 : L 7 = true → T 28 = .mptr F.b 0 0
  i8 : L 8 = true → T 29 = .mptr F.b 0 3
  a : L 6 = false → K = H
  b : L 6 = true → L 9 = false → AckD H F w S (isInB s) (T 27) K
  c : L 9 = true → ∃ w', AckP H F w S (isInB s) K w'
  j9 : L 9 = true → L 6 = true
  j6 : L 6 = true → L 4 = true

set_option maxRecDepth 8000 in
set_option maxHeartbeats 8000000 in
theorem Ack_ok {H : Hp} {F : Ft} {w : Rw} {S : Bf} (hR : Rep H F w S) (hg : Good S) (s : List (Int × Int)) (ex : Bool) (hc : setC s = 0) (hm : s.length ≤ maxLen) :
    ACalls Try.prog 33 [.mptr F.b 0 0, .rsl (sps s) ex] H fun v1 H1 => v1 = .tup [iv ((S.L.length : Int) - (keepL (isInB s) S.L).length), iv 0] ∧ ∃ w', AckP H F w S (isInB s) H1 w' := by
  have hb := hR.raw.hb
  simp only [Rw.cs] at hb
  have hv := valid_ok hR.raw
  have hck := bcheckSet_ok H s ex
  rw [hc] at hck
  have hlm := hg.len
  have hlen : ∀ {ids : List Int}, ids = idsL S.L → ids.length = S.L.length := fun e => by rw [e]; simp [idsL]
  have hsh := hR.ord.shape
  have hD := del_ok hR hg s ex hc hm
  refine ACalls.of_body Try.func33 rfl (by kernel_rfl) (by rw [Try.ntmps33]; simp) ?_; rw [Try.ntmps33]
  repeat' ((fail_if_success (apply stopR (id := 6))); (fail_if_success (apply stopS (id := 6))); first | refine spD (fun _ => ?_) (fun _ => ?_) | refine spF (fun _ => ?_) (fun _ => ?_) | (apply gT; (exact rfl)) | (apply off; (exact rfl); (exact rfl)) | (apply condT; (exact rfl)) | (apply condF; (exact rfl)) | ((first | (apply stp0; (exact rfl); (exact rfl)) | (apply stpN0; (exact rfl)) | apply gT | apply condT | ((first | apply bodyQ_d0 | apply bodyQ_d1 | apply bodyQ_d2 | apply bodyQ_d3 | apply bodyQ_d4); (exact .inr rfl); (rw [Try.results33]))); (first | (focus (simp only [go_sem, ↓reduceIte, simprocAttr] <;> rfl)) | exact rfl); (first | (fail_if_success (show okD _ _ _ _ _ _ _ _ _)) | (first | exact okT | exact okN | exact okE rfl)); (first | (fail_if_success (show Bel _ _)) | (focus first | exact .val _ | (simp [oneOf, Bel_iff_tup, Bel_iff_agg, Bel_iff_rsl, Bel_iff_fn, Bel_iff_rptr, Bel_val]; done)))) | (apply calTo0; (exact rfl); (iterate 2 (simp only [go_sem, ↓reduceIte, simprocAttr]; rfl)); (first | exact hv | exact hck); (first | exact okT | exact okN | exact okE rfl)) | refine thenQ_n ?_ | refine thenQ_r ?_ | refine thenQ_e ?_ | refine blockQ_n ?_ | refine blockQ_r ?_ | refine blockQ_e ?_ | (apply blockQ_o; (exact rfl)) | refine Awp.seq ?_ | refine Awp.skip ?_ | refine Awp.block ?_ | refine reg (fun s => false) ?_ | (apply drwE mixed (fun s => false); (kernel_rfl)) | refine fin ?_ | refine Awp.ret ?_ | refine Awp.exit ?_ | ((first | (apply off; (exact rfl)) | apply condF); (first | (focus (simp only [go_sem, ↓reduceIte, simprocAttr] <;> rfl)) | exact rfl)))
  all_goals first | contradiction | (exfalso; omega) | skip
  refine Awp.withT (fun T' => T' 2 = .rptr [.mptr F.b 0 0] 0 ∧ T' 3 = .rptr [.rsl (sps s) ex] 0) ⟨?_, ?_⟩ ?_
  · (first | (focus (simp only [go_sem, ↓reduceIte, simprocAttr]; first | done | rfl)) | rfl)
  · (first | (focus (simp only [go_sem, ↓reduceIte, simprocAttr]; first | done | rfl)) | rfl)
  rintro T ⟨t2, t3⟩
  refine Awp.seq (Awp.mono (Q := fun e T K => e = .normal ∧ K = H ∧ T 2 = .rptr [.mptr F.b 0 0] 0 ∧ T 3 = .rptr [.rsl (sps s) ex] 0 ∧ T 7 = iv S.L.length) ?_ ?_)
  · rcases hsh with ⟨eo, ei⟩ | ⟨o, m, eo, em⟩
    · have h0 := hlen ei.symm
      rcases eo with eo | eo
      · rw [eo] at hb
        repeat' (first | refine spD (fun _ => ?_) (fun _ => ?_) | refine spF (fun _ => ?_) (fun _ => ?_) | (apply gT; (exact rfl)) | (apply off; (exact rfl); (exact rfl)) | (apply condT; (exact rfl)) | (apply condF; (exact rfl)) | ((first | (apply stp0; (exact rfl); (exact rfl)) | (apply stpN0; (exact rfl)) | apply gT | apply condT | ((first | apply bodyQ_d0 | apply bodyQ_d1 | apply bodyQ_d2 | apply bodyQ_d3 | apply bodyQ_d4); (exact .inr rfl); (rw [Try.results33]))); (first | (focus (simp only [go_sem, ↓reduceIte, simprocAttr, t2, t3, hb] <;> rfl)) | exact rfl); (first | (fail_if_success (show okD _ _ _ _ _ _ _ _ _)) | (first | exact okT | exact okN | exact okE rfl)); (first | (fail_if_success (show Bel _ _)) | (focus first | exact .val _ | (simp [oneOf, Bel_iff_tup, Bel_iff_agg, Bel_iff_rsl, Bel_iff_fn, Bel_iff_rptr, Bel_val]; done)))) | refine thenQ_n ?_ | refine thenQ_r ?_ | refine thenQ_e ?_ | refine blockQ_n ?_ | refine blockQ_r ?_ | refine blockQ_e ?_ | (apply blockQ_o; (exact rfl)) | refine Awp.seq ?_ | refine Awp.skip ?_ | refine Awp.block ?_ | refine reg (fun s => false) ?_ | (apply drwE mixed (fun s => false); (kernel_rfl)) | refine fin ?_ | refine Awp.ret ?_ | refine Awp.exit ?_ | ((first | (apply off; (exact rfl)) | apply condF); (first | (focus (simp only [go_sem, ↓reduceIte, simprocAttr, t2, t3, hb] <;> rfl)) | exact rfl)))
        all_goals first | contradiction | (exfalso; omega) | skip
        refine ⟨rfl, rfl, ?_, ?_, ?_⟩
        · (first | (focus (simp only [go_sem, ↓reduceIte, simprocAttr, t2]; first | done | rfl)) | rfl)
        · (first | (focus (simp only [go_sem, ↓reduceIte, simprocAttr, t3]; first | done | rfl)) | rfl)
        · rw [← h0]; (first | (focus (simp only [go_sem, ↓reduceIte, simprocAttr]; first | done | rfl)) | rfl)
      · rw [eo] at hb
        repeat' (first | refine spD (fun _ => ?_) (fun _ => ?_) | refine spF (fun _ => ?_) (fun _ => ?_) | (apply gT; (exact rfl)) | (apply off; (exact rfl); (exact rfl)) | (apply condT; (exact rfl)) | (apply condF; (exact rfl)) | ((first | (apply stp0; (exact rfl); (exact rfl)) | (apply stpN0; (exact rfl)) | apply gT | apply condT | ((first | apply bodyQ_d0 | apply bodyQ_d1 | apply bodyQ_d2 | apply bodyQ_d3 | apply bodyQ_d4); (exact .inr rfl); (rw [Try.results33]))); (first | (focus (simp only [go_sem, ↓reduceIte, simprocAttr, t2, t3, hb] <;> rfl)) | exact rfl); (first | (fail_if_success (show okD _ _ _ _ _ _ _ _ _)) | (first | exact okT | exact okN | exact okE rfl)); (first | (fail_if_success (show Bel _ _)) | (focus first | exact .val _ | (simp [oneOf, Bel_iff_tup, Bel_iff_agg, Bel_iff_rsl, Bel_iff_fn, Bel_iff_rptr, Bel_val]; done)))) | refine thenQ_n ?_ | refine thenQ_r ?_ | refine thenQ_e ?_ | refine blockQ_n ?_ | refine blockQ_r ?_ | refine blockQ_e ?_ | (apply blockQ_o; (exact rfl)) | refine Awp.seq ?_ | refine Awp.skip ?_ | refine Awp.block ?_ | refine reg (fun s => false) ?_ | (apply drwE mixed (fun s => false); (kernel_rfl)) | refine fin ?_ | refine Awp.ret ?_ | refine Awp.exit ?_ | ((first | (apply off; (exact rfl)) | apply condF); (first | (focus (simp only [go_sem, ↓reduceIte, simprocAttr, t2, t3, hb] <;> rfl)) | exact rfl)))
        all_goals first | contradiction | (exfalso; omega) | skip
        refine ⟨rfl, rfl, ?_, ?_, ?_⟩
        · (first | (focus (simp only [go_sem, ↓reduceIte, simprocAttr, t2]; first | done | rfl)) | rfl)
        · (first | (focus (simp only [go_sem, ↓reduceIte, simprocAttr, t3]; first | done | rfl)) | rfl)
        · rw [← h0]; (first | (focus (simp only [go_sem, ↓reduceIte, simprocAttr]; first | done | rfl)) | rfl)
    · have h0 := hlen (rfl : idsL S.L = idsL S.L)
      rw [eo] at hb
      repeat' (first | refine spD (fun _ => ?_) (fun _ => ?_) | refine spF (fun _ => ?_) (fun _ => ?_) | (apply gT; (exact rfl)) | (apply off; (exact rfl); (exact rfl)) | (apply condT; (exact rfl)) | (apply condF; (exact rfl)) | ((first | (apply stp0; (exact rfl); (exact rfl)) | (apply stpN0; (exact rfl)) | apply gT | apply condT | ((first | apply bodyQ_d0 | apply bodyQ_d1 | apply bodyQ_d2 | apply bodyQ_d3 | apply bodyQ_d4); (exact .inr rfl); (rw [Try.results33]))); (first | (focus (simp only [go_sem, ↓reduceIte, simprocAttr, t2, t3, hb] <;> rfl)) | exact rfl); (first | (fail_if_success (show okD _ _ _ _ _ _ _ _ _)) | (first | exact okT | exact okN | exact okE rfl)); (first | (fail_if_success (show Bel _ _)) | (focus first | exact .val _ | (simp [oneOf, Bel_iff_tup, Bel_iff_agg, Bel_iff_rsl, Bel_iff_fn, Bel_iff_rptr, Bel_val]; done)))) | refine thenQ_n ?_ | refine thenQ_r ?_ | refine thenQ_e ?_ | refine blockQ_n ?_ | refine blockQ_r ?_ | refine blockQ_e ?_ | (apply blockQ_o; (exact rfl)) | refine Awp.seq ?_ | refine Awp.skip ?_ | refine Awp.block ?_ | refine reg (fun s => false) ?_ | (apply drwE mixed (fun s => false); (kernel_rfl)) | refine fin ?_ | refine Awp.ret ?_ | refine Awp.exit ?_ | ((first | (apply off; (exact rfl)) | apply condF); (first | (focus (simp only [go_sem, ↓reduceIte, simprocAttr, t2, t3, hb] <;> rfl)) | exact rfl)))
      all_goals first | contradiction | (exfalso; omega) | skip
      refine ⟨rfl, rfl, ?_, ?_, ?_⟩
      · (first | (focus (simp only [go_sem, ↓reduceIte, simprocAttr, t2]; first | done | rfl)) | rfl)
      · (first | (focus (simp only [go_sem, ↓reduceIte, simprocAttr, t3]; first | done | rfl)) | rfl)
      · rw [← h0, ← em]; (first | (focus (simp only [go_sem, ↓reduceIte, simprocAttr]; first | done | rfl)) | rfl)
  rintro e T K ⟨rfl, rfl, t2, t3, t7⟩
  refine thenQ_n ?_
  refine Awp.seq (Awp.mono (Q := fun e T' K' => e = .normal ∧ T' 2 = .rptr [.mptr F.b 0 0] 0 ∧ T' 7 = iv S.L.length ∧ ∃ w', AckP K F w S (isInB s) K' w') ?_ ?_)
  · refine Awp.anyInvO mixed (Inv7 K F w S s ex S.L.length) (by kernel_rfl) ?_ ?_ (fun L T J hL hI => ⟨rfl, hI.t2, hI.t7, hI.c (hL 9 (by decide))⟩)
    · exact ⟨t2, t3, t7, by simp, by simp, by simp, by simp, by simp, by simp, by simp, by simp, fun _ => rfl, by simp, by simp, by simp, by simp⟩
    simp only [AllIx]
    clear t2 t3 t7 T
    refine ⟨?_, ?_, ?_, ?_, ?_, ?_, ?_, ?_, ?_, ?_, trivial⟩
    all_goals
      intro L T J hL hp ⟨t2, t3, t7, i0, i1, i2, i3, i4, i5, i7, i8, ia, ib, ic, j9, j6⟩
      simp [Region.binds] at hp
    · refine OpOK.step (mu := fun _ => false) (by simp only [go_sem, ↓reduceIte, simprocAttr, t2]; rfl) ?_
      constructor <;> simp_all [setL, putA, upd]
    · refine OpOK.step (mu := fun _ => false) (by simp only [go_sem, ↓reduceIte, simprocAttr, t2]; rfl) ?_
      constructor <;> simp_all [setL, putA, upd]
    · have k0 := i1 (by simp [hp])
      refine OpOK.step (mu := fun _ => false) (by simp only [go_sem, ↓reduceIte, simprocAttr, k0]; rfl) ?_
      constructor <;> simp_all [setL, putA, upd]
    · have k0 := i2 (by simp [hp])
      refine OpOK.step (mu := fun _ => false) (by simp only [go_sem, ↓reduceIte, simprocAttr, k0]; rfl) ?_
      constructor <;> simp_all [setL, putA, upd]
    · have k0 := i3 (by simp [hp])
      have e6 : L 6 = false := by cases k : L 6 with | false => rfl | true => rw [j6 k] at hL; cases hL
      have eK := ia e6
      rw [eK]
      refine OpOK.step (mu := fun _ => false) (by simp only [go_sem, ↓reduceIte, simprocAttr, k0, hb]; rfl) ?_
      constructor <;> simp_all [setL, putA, upd]
    · refine OpOK.step (mu := fun _ => false) (by simp only [go_sem, ↓reduceIte, simprocAttr, t2, t3]; rfl) ?_
      constructor <;> simp_all [setL, putA, upd]
    · have k4 := i4 (by simp [hp])
      have k5 := i5 (by simp [hp])
      have e9 : L 9 = false := by cases k : L 9 with | false => rfl | true => rw [j9 k] at hL; cases hL
      have eK := ia hL
      rw [eK]
      refine OpOK.call rfl (show ACallV Try.prog (evA T (.func 66)) [evA T (.tmp 25), evA T (.tmp 26)] K _ from ?_)
      rw [show evA T (.tmp 25) = w.ord from k4, show evA T (.tmp 26) = _ from k5]
      refine ACallV.mono (show ACallV Try.prog (.fn (.func 66) []) _ K _ from hD) fun v K1 hA => ?_
      constructor <;> simp_all [setL, putA, upd]
    · have k0 := i0 (by simp [hp])
      refine OpOK.step (mu := fun _ => false) (by simp only [go_sem, ↓reduceIte, simprocAttr, k0]; rfl) ?_
      constructor <;> simp_all [setL, putA, upd]
    · have k0 := i7 (by simp [hp])
      refine OpOK.step (mu := fun _ => false) (by simp only [go_sem, ↓reduceIte, simprocAttr, k0]; rfl) ?_
      constructor <;> simp_all [setL, putA, upd]
    · have k8 := i8 (by simp [hp])
      have e6 : L 6 = true := by simp [hp]
      have hA := ib e6 hL
      obtain ⟨cs, w', h1, h2, h3⟩ := hA.store hR
      have hcell : (T 27).cells = [T 27] ∧ AV.isCell (T 27) = true := by
        rcases hA.ord.shape with ⟨e | e, _⟩ | ⟨o, m, e, _⟩ <;> rw [e] <;> exact ⟨rfl, rfl⟩
      match cs, h2 with
      | [c0, c1, c2, c3, c4, c5, c6], _ =>
      refine OpOK.step (mu := fun _ => false) (v := .val undef) (H' := J.set F.b (.cells [[c0, c1, c2, T 27, c4, c5, c6]] 109)) (by
        rcases hA.ord.shape with ⟨e | e, _⟩ | ⟨o, m, e, _⟩ <;> rw [e] <;> simp only [go_sem, ↓reduceIte, simprocAttr, k8, h1, e] <;> rfl) ?_
      constructor <;> first | exact fun _ => ⟨w', h3⟩ | simp_all [setL, putA, upd]
  rintro e T J ⟨rfl, t2, t7, w', hP⟩
  have hb2 := hP.rep.raw.hb
  simp only [Rw.cs] at hb2
  refine thenQ_n ?_
  rcases hP.rep.ord.shape with ⟨eo, ei⟩ | ⟨o, m, eo, em⟩
  · have h0 : (keepL (isInB s) S.L).length = 0 := by rw [show (keepL (isInB s) S.L).length = (idsL (S.keep (isInB s)).L).length by simp [idsL, Bf.keep], ei]; rfl
    have ww : IntKind.i64.wrap ((S.L.length : Int) - ((0 : Nat) : Int)) = (S.L.length : Int) - ((0 : Nat) : Int) := w64 (by omega) (by omega)
    have ww0 : IntKind.i64.wrap ((S.L.length : Int) - 0) = (S.L.length : Int) - 0 := ww
    rcases eo with eo | eo
    · rw [eo] at hb2
      repeat' (first | refine spD (fun _ => ?_) (fun _ => ?_) | refine spF (fun _ => ?_) (fun _ => ?_) | (apply gT; (exact rfl)) | (apply off; (exact rfl); (exact rfl)) | (apply condT; (exact rfl)) | (apply condF; (exact rfl)) | ((first | (apply stp0; (exact rfl); (exact rfl)) | (apply stpN0; (exact rfl)) | apply gT | apply condT); (first | (focus (simp only [go_sem, ↓reduceIte, simprocAttr, t2, t7, hb2, ww, ww0] <;> rfl)) | exact rfl); (first | (fail_if_success (show okD _ _ _ _ _ _ _ _ _)) | (first | exact okT | exact okN | exact okE rfl))) | refine thenQ_n ?_ | refine thenQ_r ?_ | refine thenQ_e ?_ | refine blockQ_n ?_ | refine blockQ_r ?_ | refine blockQ_e ?_ | (apply blockQ_o; (exact rfl)) | refine Awp.seq ?_ | refine Awp.skip ?_ | refine Awp.block ?_ | refine reg (fun s => false) ?_ | (apply drwE mixed (fun s => false); (kernel_rfl)) | refine fin ?_ | refine Awp.ret ?_ | refine Awp.exit ?_ | ((first | (apply off; (exact rfl)) | apply condF); (first | (focus (simp only [go_sem, ↓reduceIte, simprocAttr, t2, t7, hb2, ww, ww0] <;> rfl)) | exact rfl)))
      all_goals first | contradiction | (exfalso; omega) | skip
      exact bodyQ_mk (vs := [iv ((S.L.length : Int) - ((0 : Nat) : Int)), iv 0]) (.inr rfl) (by rw [Try.results33]; simp only [go_sem, ↓reduceIte, simprocAttr, ww, ww0]) (Vs.refl _ _ _) ⟨by rw [h0]; rfl, w', hP⟩
    · rw [eo] at hb2
      repeat' (first | refine spD (fun _ => ?_) (fun _ => ?_) | refine spF (fun _ => ?_) (fun _ => ?_) | (apply gT; (exact rfl)) | (apply off; (exact rfl); (exact rfl)) | (apply condT; (exact rfl)) | (apply condF; (exact rfl)) | ((first | (apply stp0; (exact rfl); (exact rfl)) | (apply stpN0; (exact rfl)) | apply gT | apply condT); (first | (focus (simp only [go_sem, ↓reduceIte, simprocAttr, t2, t7, hb2, ww, ww0] <;> rfl)) | exact rfl); (first | (fail_if_success (show okD _ _ _ _ _ _ _ _ _)) | (first | exact okT | exact okN | exact okE rfl))) | refine thenQ_n ?_ | refine thenQ_r ?_ | refine thenQ_e ?_ | refine blockQ_n ?_ | refine blockQ_r ?_ | refine blockQ_e ?_ | (apply blockQ_o; (exact rfl)) | refine Awp.seq ?_ | refine Awp.skip ?_ | refine Awp.block ?_ | refine reg (fun s => false) ?_ | (apply drwE mixed (fun s => false); (kernel_rfl)) | refine fin ?_ | refine Awp.ret ?_ | refine Awp.exit ?_ | ((first | (apply off; (exact rfl)) | apply condF); (first | (focus (simp only [go_sem, ↓reduceIte, simprocAttr, t2, t7, hb2, ww, ww0] <;> rfl)) | exact rfl)))
      all_goals first | contradiction | (exfalso; omega) | skip
      exact bodyQ_mk (vs := [iv ((S.L.length : Int) - ((0 : Nat) : Int)), iv 0]) (.inr rfl) (by rw [Try.results33]; simp only [go_sem, ↓reduceIte, simprocAttr, ww, ww0]) (Vs.refl _ _ _) ⟨by rw [h0]; rfl, w', hP⟩
  · rw [eo] at hb2
    have h0 : (keepL (isInB s) S.L).length = m := by rw [em]; simp [idsL, Bf.keep]
    have h1 : (keepL (isInB s) S.L).length ≤ S.L.length := List.length_filter_le _ _
    have ww : IntKind.i64.wrap ((S.L.length : Int) - m) = (S.L.length : Int) - m := w64 (by omega) (by omega)
    repeat' (first | refine spD (fun _ => ?_) (fun _ => ?_) | refine spF (fun _ => ?_) (fun _ => ?_) | (apply gT; (exact rfl)) | (apply off; (exact rfl); (exact rfl)) | (apply condT; (exact rfl)) | (apply condF; (exact rfl)) | ((first | (apply stp0; (exact rfl); (exact rfl)) | (apply stpN0; (exact rfl)) | apply gT | apply condT); (first | (focus (simp only [go_sem, ↓reduceIte, simprocAttr, t2, t7, hb2, ww] <;> rfl)) | exact rfl); (first | (fail_if_success (show okD _ _ _ _ _ _ _ _ _)) | (first | exact okT | exact okN | exact okE rfl))) | refine thenQ_n ?_ | refine thenQ_r ?_ | refine thenQ_e ?_ | refine blockQ_n ?_ | refine blockQ_r ?_ | refine blockQ_e ?_ | (apply blockQ_o; (exact rfl)) | refine Awp.seq ?_ | refine Awp.skip ?_ | refine Awp.block ?_ | refine reg (fun s => false) ?_ | (apply drwE mixed (fun s => false); (kernel_rfl)) | refine fin ?_ | refine Awp.ret ?_ | refine Awp.exit ?_ | ((first | (apply off; (exact rfl)) | apply condF); (first | (focus (simp only [go_sem, ↓reduceIte, simprocAttr, t2, t7, hb2, ww] <;> rfl)) | exact rfl)))
    all_goals first | contradiction | (exfalso; omega) | skip
    exact bodyQ_mk (vs := [iv ((S.L.length : Int) - m), iv 0]) (.inr rfl) (by rw [Try.results33]; simp only [go_sem, ↓reduceIte, simprocAttr, ww]) (Vs.refl _ _ _) ⟨by rw [h0]; rfl, w', hP⟩

set_option maxRecDepth 8000 in
theorem Ack_err {H : Hp} {F : Ft} {w : Rw} {S : Bf} (hR : Rep H F w S) (s : List (Int × Int)) (ex : Bool) (hc : setC s ≠ 0) :
    ACalls Try.prog 33 [.mptr F.b 0 0, .rsl (sps s) ex] H fun v1 H1 => v1 = .tup [iv 0, iv (setC s)] ∧ H1 = H := by
  have hv := valid_ok hR.raw
  have hck := bcheckSet_ok H s ex
  refine ACalls.of_body Try.func33 rfl (by kernel_rfl) (by rw [Try.ntmps33]; simp) ?_; rw [Try.ntmps33]
  repeat' (first | refine spD (fun _ => ?_) (fun _ => ?_) | refine spF (fun _ => ?_) (fun _ => ?_) | (apply gT; (exact rfl)) | (apply off; (exact rfl); (exact rfl)) | (apply condT; (exact rfl)) | (apply condF; (exact rfl)) | ((first | (apply stp0; (exact rfl); (exact rfl)) | (apply stpN0; (exact rfl)) | apply gT | apply condT); (first | (focus (simp only [go_sem, ↓reduceIte, simprocAttr, hc] <;> rfl)) | exact rfl); (first | (fail_if_success (show okD _ _ _ _ _ _ _ _ _)) | (first | exact okT | exact okN | exact okE rfl))) | (apply calTo0; (exact rfl); (iterate 2 (simp only [go_sem, ↓reduceIte, simprocAttr, hc]; rfl)); (first | exact hv | exact hck); (first | exact okT | exact okN | exact okE rfl)) | refine thenQ_n ?_ | refine thenQ_r ?_ | refine thenQ_e ?_ | refine blockQ_n ?_ | refine blockQ_r ?_ | refine blockQ_e ?_ | (apply blockQ_o; (exact rfl)) | refine Awp.seq ?_ | refine Awp.skip ?_ | refine Awp.block ?_ | refine reg (fun s => false) ?_ | (apply drwE mixed (fun s => false); (kernel_rfl)) | refine fin ?_ | refine Awp.ret ?_ | refine Awp.exit ?_ | ((first | (apply off; (exact rfl)) | apply condF); (first | (focus (simp only [go_sem, ↓reduceIte, simprocAttr, hc] <;> rfl)) | exact rfl)))
  all_goals first | contradiction | (exfalso; omega) | skip
  exact bodyQ_mk (vs := [iv 0, iv (setC s)]) (.inr rfl) (by rw [Try.results33]; simp only [go_sem, ↓reduceIte, simprocAttr]) (Vs.refl _ _ _) ⟨rfl, rfl⟩

end Go.Proofs.Ytlhchnnfgppneaa.Ab
namespace Go.Proofs.Ytlhchnnfgppneaa.Ab
open Go Go.RowKit Go.Proofs
set_option linter.unusedSimpArgs false
set_option linter.unusedVariables false

variable {base : Nat} {w0 w w' : World} {g : Gh} {H : Hp}

theorem clone_eq (t : TypeId) (r : Nat) : Extern.MapsClone.clone #[.iface t (.map (some r))] = (do
    let .map entries clock ← getObj r | stuck "maps.clone: a map expected"
    pure (.iface t (.map (some (← newObj (.map entries clock)))))) := rfl

theorem clone_fn (w : World) (t : TypeId) (r : Nat) (ms : Array MapEntry) (clock : Nat) (h : w.heap[r]? = some (.map ms clock)) :
    (callFunc 101 #[.iface t (.map (some r))]).run Try.prog w = .ok (.value (.iface t (.map (some w.heap.size)))) (w.alloc (.map ms clock)) := by
  rw [run_callFunc_extern Try.func101 (by kernel_rfl) (by kernel_rfl) (by kernel_rfl) (e := Extern.MapsClone.clone) (by kernel_rfl), clone_eq]
  have e1 : (getObj r).run Try.prog w = .ok (.map ms clock) w := by simp [getObj, Sem.run, h]
  simp [e1]

/-- the two steps of Go's own that are no contract of stepA's -/
theorem clone_iface (w : World) (t k e : TypeId) (r : Nat) (h : Try.prog.underlying t = some (.map k e)) : (Instr.makeInterface t (.map (some r))).run Try.prog w = .ok (.iface t (.map (some r))) w := by
  simp [Instr.makeInterface, run_underlying h]
theorem clone_back (w : World) (t k e : TypeId) (r : Nat) (h : Try.prog.underlying t = some (.map k e)) : (Instr.typeAssert (.iface t (.map (some r))) 20 t false).run Try.prog w = .ok (.map (some r)) w := by
  simp [Instr.typeAssert, run_underlying h]

theorem i_at40 : Try.prog.underlying 40 = some (.map 2 23) := by kernel_rfl

set_option maxHeartbeats 4000000 in
set_option maxRecDepth 100000 in
theorem clone71 (w : World) (r : Nat) (ms : Array MapEntry) (clock : Nat) (h : w.heap[r]? = some (.map ms clock)) :
    Calls Try.prog 71 #[.map (some r)] w fun e w' => e = .returned (.map (some w.heap.size)) ∧ w' = w.alloc (.map ms clock) := by
  have q40 : ∀ (w : World) (r : Option Nat), (binOp .eql 40 (.map r) (.map none)).run Try.prog w = .ok (.bool r.isNone) w := fun w r => run_eql_map_nil w _ _ _ r i_at40
  have h1 := clone_iface w 40 _ _ r i_at40
  have h2 := clone_fn w 40 r ms clock h
  have h3 := fun w => clone_back w 40 _ _ r i_at40
  have h4 := fun w r => clone_back w 40 _ _ r i_at40
  go_enter Try.func71, Try.ntmps71
  go_wp2_with (simp only [h1, h2, h3, h4, q40])
  go_ret
  exact ⟨rfl, rfl⟩

theorem i_at106 : ∃ k e, Try.prog.underlying 106 = some (.map k e) := ⟨2, 3, by kernel_rfl⟩
theorem i_at107 : ∃ k e, Try.prog.underlying 107 = some (.map k e) := ⟨2, 2, by kernel_rfl⟩

set_option maxHeartbeats 4000000 in
set_option maxRecDepth 100000 in
theorem clone72 (w : World) (r : Nat) (ms : Array MapEntry) (clock : Nat) (h : w.heap[r]? = some (.map ms clock)) :
    Calls Try.prog 72 #[.map (some r)] w fun e w' => e = .returned (.map (some w.heap.size)) ∧ w' = w.alloc (.map ms clock) := by
  obtain ⟨k, e, i_at⟩ := i_at106
  have q40 : ∀ (w : World) (r : Option Nat), (binOp .eql 106 (.map r) (.map none)).run Try.prog w = .ok (.bool r.isNone) w := fun w r => run_eql_map_nil w _ _ _ r i_at
  have h1 := clone_iface w 106 _ _ r i_at
  have h2 := clone_fn w 106 r ms clock h
  have h4 := fun w r => clone_back w 106 _ _ r i_at
  go_enter Try.func72, Try.ntmps72
  go_wp2_with (simp only [h1, h2, h4, q40])
  go_ret
  exact ⟨rfl, rfl⟩

set_option maxHeartbeats 4000000 in
set_option maxRecDepth 100000 in
theorem clone73 (w : World) (r : Nat) (ms : Array MapEntry) (clock : Nat) (h : w.heap[r]? = some (.map ms clock)) :
    Calls Try.prog 73 #[.map (some r)] w fun e w' => e = .returned (.map (some w.heap.size)) ∧ w' = w.alloc (.map ms clock) := by
  obtain ⟨k, e, i_at⟩ := i_at107
  have q40 : ∀ (w : World) (r : Option Nat), (binOp .eql 107 (.map r) (.map none)).run Try.prog w = .ok (.bool r.isNone) w := fun w r => run_eql_map_nil w _ _ _ r i_at
  have h1 := clone_iface w 107 _ _ r i_at
  have h2 := clone_fn w 107 r ms clock h
  have h4 := fun w r => clone_back w 107 _ _ r i_at
  go_enter Try.func73, Try.ntmps73
  go_wp2_with (simp only [h1, h2, h4, q40])
  go_ret
  exact ⟨rfl, rfl⟩

theorem oneArg0 {a : AV} {vs : Array Value} (hr : RCells g [a] vs) : ∃ v0, vs = #[v0] ∧ R g a v0 := by
  have hs := hr.size
  match vs, hs, hr with
  | ⟨[v0]⟩, _, hr => exact ⟨v0, rfl, hr.cell 0 _ _ rfl rfl⟩

theorem clone_of {f : FuncId} (hc : callable Try.prog f = true) (hC : ∀ (w : World) (r : Nat) (ms : Array MapEntry) (clock : Nat), w.heap[r]? = some (.map ms clock) → Calls Try.prog f #[.map (some r)] w fun e w' => e = .returned (.map (some w.heap.size)) ∧ w' = w.alloc (.map ms clock))
    {H : Hp} {b : Nat} {es : List (AV × AV)} (hb : H[b]? = some (.amap es)) : CallsTo Try.prog f [.mp b] H (.mp H.length) (H ++ [.amap es]) := by
  refine ⟨hc, fun base w0 g w vs S hr => ?_⟩
  obtain ⟨v0, rfl, h0⟩ := oneArg0 hr
  cases h0 with
  | mp hx =>
  rename_i x
  obtain ⟨y, o, h1, h2, h3⟩ := S.obj b _ hb (by simp)
  rw [hx] at h1; cases h1
  cases h3 with
  | amap hl hr' hs =>
  rename_i ms clock
  refine (callsIn_wide.2 (hC w x ms clock h2)).mono fun e w' ⟨he, hw'⟩ => ?_
  subst he hw'
  have hle : g.le (g.phAdd H.length w.heap.size 0 0) := Gh.phAdd_le S.fresh
  have S2 := S.alloc (k := 0) (c := 0) (ob := .amap es) (World.grownBy_alloc w (.map ms clock) none) (heap_alloc_new _ _) (.amap hl (fun i e m he hm => ⟨(hr' i e m he hm).1.mono hle, (hr' i e m he hm).2.mono hle⟩) hs)
  exact ⟨_, _, _, _, rfl, ⟨rfl, rfl⟩, hle, S2, .mp (by simp [Gh.phAdd])⟩

theorem clone71_ok {H : Hp} {b : Nat} {es : List (AV × AV)} (hb : H[b]? = some (.amap es)) : CallsTo Try.prog 71 [.mp b] H (.mp H.length) (H ++ [.amap es]) := clone_of (by kernel_rfl) clone71 hb
theorem clone72_ok {H : Hp} {b : Nat} {es : List (AV × AV)} (hb : H[b]? = some (.amap es)) : CallsTo Try.prog 72 [.mp b] H (.mp H.length) (H ++ [.amap es]) := clone_of (by kernel_rfl) clone72 hb
theorem clone73_ok {H : Hp} {b : Nat} {es : List (AV × AV)} (hb : H[b]? = some (.amap es)) : CallsTo Try.prog 73 [.mp b] H (.mp H.length) (H ++ [.amap es]) := clone_of (by kernel_rfl) clone73 hb

end Go.Proofs.Ytlhchnnfgppneaa.Ab
namespace Go.Proofs.Ytlhchnnfgppneaa.Ab
open Go Go.RowKit Go.Proofs
set_option linter.unusedSimpArgs false
set_option linter.unusedVariables false
attribute [local irreducible] Awp wpO thenQ blockQ bodyQ ACalls stepA

abbrev nilP' : AV := .val (.pointer none)
def newOk' (c : Int) : Prop := 1 ≤ c ∧ c ≤ 16777216
set_option maxRecDepth 8000 in
theorem newNo (H : Hp) (c : Int) (h : ¬ newOk' c) : CallsTo Try.prog 16 [iv c] H (.tup [nilP', iv 3]) H := by
  have ho := fun H => outside_ok H c 1 16777216
  unfold newOk' at h
  rw [decide_eq_true (by omega)] at ho
  refine ACalls.of_body Try.func16 rfl (by kernel_rfl) (by rw [Try.ntmps16]; simp) ?_; rw [Try.ntmps16]
  repeat' (first | refine spD (fun _ => ?_) (fun _ => ?_) | refine spF (fun _ => ?_) (fun _ => ?_) | (apply gT; (exact rfl)) | (apply off; (exact rfl); (exact rfl)) | (apply condT; (exact rfl)) | (apply condF; (exact rfl)) | ((first | (apply stp0; (exact rfl); (exact rfl)) | (apply stpN0; (exact rfl)) | apply gT | apply condT | ((first | apply bodyQ_d0 | apply bodyQ_d1 | apply bodyQ_d2 | apply bodyQ_d3 | apply bodyQ_d4); (exact .inr rfl); (rw [Try.results16]))); (first | (focus (simp only [go_sem, ↓reduceIte, simprocAttr] <;> rfl)) | exact rfl); (first | (fail_if_success (show okD _ _ _ _ _ _ _ _ _)) | (first | exact okT | exact okN | exact okE rfl)); (first | (fail_if_success (show Bel _ _)) | (focus first | exact .val _ | (simp [oneOf, Bel_iff_tup, Bel_iff_agg, Bel_iff_rsl, Bel_iff_fn, Bel_iff_rptr, Bel_val]; done)))) | (apply calTo0; (exact rfl); (iterate 2 (simp only [go_sem, ↓reduceIte, simprocAttr]; rfl)); (first | exact ho _); (first | exact okT | exact okN | exact okE rfl)) | refine thenQ_n ?_ | refine thenQ_r ?_ | refine thenQ_e ?_ | refine blockQ_n ?_ | refine blockQ_r ?_ | refine blockQ_e ?_ | (apply blockQ_o; (exact rfl)) | refine Awp.seq ?_ | refine Awp.skip ?_ | refine Awp.block ?_ | refine reg (fun s => s == 11) ?_ | (apply drwE mixed (fun s => s == 11); (kernel_rfl)) | refine fin ?_ | refine Awp.ret ?_ | refine Awp.exit ?_ | ((first | (apply off; (exact rfl)) | apply condF); (first | (focus (simp only [go_sem, ↓reduceIte, simprocAttr] <;> rfl)) | exact rfl)))
  all_goals first | rfl | contradiction | (exfalso; omega) | skip
set_option maxRecDepth 8000 in
theorem rnewNo (H : Hp) (c : Int) (h : ¬ newOk' c) : CallsTo Try.prog 17 [iv c] H (.tup [nilP', iv 3]) H := by
  unfold newOk' at h
  refine ACalls.of_body Try.func17 rfl (by kernel_rfl) (by rw [Try.ntmps17]; simp) ?_; rw [Try.ntmps17]
  repeat' (first | refine spD (fun _ => ?_) (fun _ => ?_) | refine spF (fun _ => ?_) (fun _ => ?_) | (apply gT; (exact rfl)) | (apply off; (exact rfl); (exact rfl)) | (apply condT; (exact rfl)) | (apply condF; (exact rfl)) | ((first | (apply stp0; (exact rfl); (exact rfl)) | (apply stpN0; (exact rfl)) | apply gT | apply condT | ((first | apply bodyQ_d0 | apply bodyQ_d1 | apply bodyQ_d2 | apply bodyQ_d3 | apply bodyQ_d4); (exact .inr rfl); (rw [Try.results17]))); (first | (focus (simp only [go_sem, ↓reduceIte, simprocAttr] <;> rfl)) | exact rfl); (first | (fail_if_success (show okD _ _ _ _ _ _ _ _ _)) | (first | exact okT | exact okN | exact okE rfl)); (first | (fail_if_success (show Bel _ _)) | (focus first | exact .val _ | (simp [oneOf, Bel_iff_tup, Bel_iff_agg, Bel_iff_rsl, Bel_iff_fn, Bel_iff_rptr, Bel_val]; done)))) | refine thenQ_n ?_ | refine thenQ_r ?_ | refine thenQ_e ?_ | refine blockQ_n ?_ | refine blockQ_r ?_ | refine blockQ_e ?_ | (apply blockQ_o; (exact rfl)) | refine Awp.seq ?_ | refine Awp.skip ?_ | refine Awp.block ?_ | refine reg (fun s => s == 12) ?_ | (apply drwE mixed (fun s => s == 12); (kernel_rfl)) | refine fin ?_ | refine Awp.ret ?_ | refine Awp.exit ?_ | ((first | (apply off; (exact rfl)) | apply condF); (first | (focus (simp only [go_sem, ↓reduceIte, simprocAttr] <;> rfl)) | exact rfl)))
  all_goals first | rfl | contradiction | (exfalso; omega)
set_option maxRecDepth 8000 in
theorem rnewOk (H : Hp) (c : Int) (h : newOk' c) : CallsTo Try.prog 17 [iv c] H (.tup [.mptr H.length 0 0, iv 0]) (H ++ [.cells [[iv c, iv 0, nilS]] 73]) := by
  unfold newOk' at h
  refine ACalls.of_body Try.func17 rfl (by kernel_rfl) (by rw [Try.ntmps17]; simp) ?_; rw [Try.ntmps17]
  repeat' (first | refine spD (fun _ => ?_) (fun _ => ?_) | refine spF (fun _ => ?_) (fun _ => ?_) | (apply gT; (exact rfl)) | (apply off; (exact rfl); (exact rfl)) | (apply condT; (exact rfl)) | (apply condF; (exact rfl)) | ((first | (apply stp0; (exact rfl); (exact rfl)) | (apply stpN0; (exact rfl)) | apply gT | apply condT); (first | (focus (simp only [go_sem, ↓reduceIte, simprocAttr] <;> rfl)) | exact rfl); (first | (fail_if_success (show okD _ _ _ _ _ _ _ _ _)) | (first | exact okT | exact okN | exact okE rfl))) | refine thenQ_n ?_ | refine thenQ_r ?_ | refine thenQ_e ?_ | refine blockQ_n ?_ | refine blockQ_r ?_ | refine blockQ_e ?_ | (apply blockQ_o; (exact rfl)) | refine Awp.seq ?_ | refine Awp.skip ?_ | refine Awp.block ?_ | refine reg (fun s => s == 12) ?_ | (apply drwE mixed (fun s => s == 12); (kernel_rfl)) | refine fin ?_ | refine Awp.ret ?_ | refine Awp.exit ?_ | ((first | (apply off; (exact rfl)) | apply condF); (first | (focus (simp only [go_sem, ↓reduceIte, simprocAttr] <;> rfl)) | exact rfl)))
  all_goals first | contradiction | (exfalso; omega) | skip
  exact bodyQ_mk (vs := [.mptr H.length 0 0, iv 0]) (.inr rfl) (by rw [Try.results17]; simp only [go_sem, ↓reduceIte, simprocAttr]) (Vs.refl _ _ _) ⟨rfl, rfl⟩

theorem opEqNil {T : Env} {H : Hp} {k : AV → Hp → Prop} {o : Oper} {x : Operand} {es : List (List AV)} {ex : Bool} (ho : o.op = .binOp .eql 46 x (.const (.slice none 0 0)) 46) (hx : evA T x = .rsl es ex) (he : es = []) (hk : ∀ t, k (bv t) H) : OpOK Try.prog o T H k := by
  intro base w0 g w a r S hr next Q hnx
  have hex : o.semAt (FR r).round a.eval = execOp a.eval o := Oper.semAt_eq _ _ _ (by intro c hc; rw [ho] at hc; cases hc)
  have h0 := hr x (by rw [ho]; simp [Op.operands])
  rw [hx] at h0
  have key : ∀ (ad : Option Addr) n c, a.eval x = .slice ad n c → o.wpIn (FR r) 0 Try.prog a w next Q := by
    intro ad n c e
    have hex2 : (execOp a.eval o).run Try.prog w = .ok (.value (.bool ad.isNone)) w := by
      simp only [execOp, ho, e, show a.eval (Operand.const (.slice none 0 0)) = .slice none 0 0 from rfl]
      have := Lib.run_eql_slice_nil (P := Try.prog) w 46 2 ad n c 0 0 Try.underlying46
      simp [eqGuard, this]
    refine ⟨fun _ _ => trivial, ?_⟩
    rw [hex, hex2]
    exact hnx _ _ H g w (hk ad.isNone) (Gh.le.refl g) S (.val _)
  generalize hv : a.eval x = v at h0
  cases h0 with
  | rnil => exact key _ _ _ hv
  | rsl => exact key _ _ _ hv

set_option maxRecDepth 8000 in
theorem clone70_ok {H : Hp} {a : AV} {ids : List Int} (hO : OrdAt H a ids) (hl : ids.length ≤ 1000) : ∃ a' X, CallsTo Try.prog 70 [a] H a' (H ++ X) ∧ OrdAt (H ++ X) a' ids ∧ (∀ j m, a' = .msl j 0 m → H.length ≤ j) := by
  cases hO with
  | nil =>
    refine ⟨nilS, [], ?_, .nil, fun j m e => by cases e⟩
    rw [List.append_nil]
    refine ACalls.of_body Try.func70 rfl (by kernel_rfl) (by rw [Try.ntmps70]; simp) ?_; rw [Try.ntmps70]
    repeat' (first | refine spD (fun _ => ?_) (fun _ => ?_) | refine spF (fun _ => ?_) (fun _ => ?_) | (apply gT; (exact rfl)) | (apply off; (exact rfl); (exact rfl)) | (apply condT; (exact rfl)) | (apply condF; (exact rfl)) | ((first | (apply stp0; (exact rfl); (exact rfl)) | (apply stpN0; (exact rfl)) | apply gT | apply condT | ((first | apply bodyQ_d0 | apply bodyQ_d1 | apply bodyQ_d2 | apply bodyQ_d3 | apply bodyQ_d4); (exact .inr rfl); (rw [Try.results70]))); (first | (focus (simp only [go_sem, ↓reduceIte, simprocAttr] <;> rfl)) | exact rfl); (first | (fail_if_success (show okD _ _ _ _ _ _ _ _ _)) | (first | exact okT | exact okN | exact okE rfl)); (first | (fail_if_success (show Bel _ _)) | (focus first | exact .val _ | (simp [oneOf, Bel_iff_tup, Bel_iff_agg, Bel_iff_rsl, Bel_iff_fn, Bel_iff_rptr, Bel_val]; done)))) | refine thenQ_n ?_ | refine thenQ_r ?_ | refine thenQ_e ?_ | refine blockQ_n ?_ | refine blockQ_r ?_ | refine blockQ_e ?_ | (apply blockQ_o; (exact rfl)) | refine Awp.seq ?_ | refine Awp.skip ?_ | refine Awp.block ?_ | refine reg (fun s => false) ?_ | (apply drwE mixed (fun s => false); (kernel_rfl)) | refine fin ?_ | refine Awp.ret ?_ | refine Awp.exit ?_ | ((first | (apply off; (exact rfl)) | apply condF); (first | (focus (simp only [go_sem, ↓reduceIte, simprocAttr] <;> rfl)) | exact rfl)))
    all_goals first | rfl | contradiction | (exfalso; omega)
  | emp =>
    refine ⟨.rsl [] true, [], ?_, .emp, fun j m e => by cases e⟩
    rw [List.append_nil]
    refine ACalls.of_body Try.func70 rfl (by kernel_rfl) (by rw [Try.ntmps70]; simp) ?_; rw [Try.ntmps70]
    repeat' ((fail_if_success (apply stopR (id := 1))); (fail_if_success (apply stopS (id := 1))); first | refine spD (fun _ => ?_) (fun _ => ?_) | refine spF (fun _ => ?_) (fun _ => ?_) | (apply gT; (exact rfl)) | (apply off; (exact rfl); (exact rfl)) | (apply condT; (exact rfl)) | (apply condF; (exact rfl)) | ((first | (apply stp0; (exact rfl); (exact rfl)) | (apply stpN0; (exact rfl)) | apply gT | apply condT | ((first | apply bodyQ_d0 | apply bodyQ_d1 | apply bodyQ_d2 | apply bodyQ_d3 | apply bodyQ_d4); (exact .inr rfl); (rw [Try.results70]))); (first | (focus (simp only [go_sem, ↓reduceIte, simprocAttr] <;> rfl)) | exact rfl); (first | (fail_if_success (show okD _ _ _ _ _ _ _ _ _)) | (first | exact okT | exact okN | exact okE rfl)); (first | (fail_if_success (show Bel _ _)) | (focus first | exact .val _ | (simp [oneOf, Bel_iff_tup, Bel_iff_agg, Bel_iff_rsl, Bel_iff_fn, Bel_iff_rptr, Bel_val]; done)))) | refine thenQ_n ?_ | refine thenQ_r ?_ | refine thenQ_e ?_ | refine blockQ_n ?_ | refine blockQ_r ?_ | refine blockQ_e ?_ | (apply blockQ_o; (exact rfl)) | refine Awp.seq ?_ | refine Awp.skip ?_ | refine Awp.block ?_ | refine reg (fun s => false) ?_ | (apply drwE mixed (fun s => false); (kernel_rfl)) | refine fin ?_ | refine Awp.ret ?_ | refine Awp.exit ?_ | ((first | (apply off; (exact rfl)) | apply condF); (first | (focus (simp only [go_sem, ↓reduceIte, simprocAttr] <;> rfl)) | exact rfl)))
    refine Awp.seq (Awp.regionW ⟨rfl, rfl, opMove rfl ⟨rfl, rfl, opEqNil (es := []) (ex := true) rfl rfl rfl fun t => ?_⟩⟩)
    refine thenQ_n ?_
    refine Awp.withT (fun T' => T' 0 = .rsl [] true ∧ T' 4 = bv t) ⟨by rfl, by rfl⟩ ?_
    rintro T ⟨t0, t4⟩
    cases t with
    | true =>
      repeat' (first | refine spD (fun _ => ?_) (fun _ => ?_) | refine spF (fun _ => ?_) (fun _ => ?_) | (apply gT; (exact rfl)) | (apply off; (exact rfl); (exact rfl)) | (apply condT; (exact rfl)) | (apply condF; (exact rfl)) | ((first | (apply stp0; (exact rfl); (exact rfl)) | (apply stpN0; (exact rfl)) | apply gT | apply condT); (first | (focus (simp only [go_sem, ↓reduceIte, simprocAttr, t0, t4] <;> rfl)) | exact rfl); (first | (fail_if_success (show okD _ _ _ _ _ _ _ _ _)) | (first | exact okT | exact okN | exact okE rfl))) | refine thenQ_n ?_ | refine thenQ_r ?_ | refine thenQ_e ?_ | refine blockQ_n ?_ | refine blockQ_r ?_ | refine blockQ_e ?_ | (apply blockQ_o; (exact rfl)) | refine Awp.seq ?_ | refine Awp.skip ?_ | refine Awp.block ?_ | refine reg (fun s => false) ?_ | (apply drwE mixed (fun s => false); (kernel_rfl)) | refine fin ?_ | refine Awp.ret ?_ | refine Awp.exit ?_ | ((first | (apply off; (exact rfl)) | apply condF); (first | (focus (simp only [go_sem, ↓reduceIte, simprocAttr, t0, t4] <;> rfl)) | exact rfl)))
      all_goals first | contradiction | (exfalso; omega) | skip
      refine bodyQ_mk (vs := [nilS]) (.inr rfl) (by rw [Try.results70]; simp only [go_sem, ↓reduceIte, simprocAttr]) ?_ ⟨rfl, rfl⟩
      intro base w0 g0 g w x _ _ hg S hR
      cases hR
      exact ⟨g, hg, S, .rnil _⟩
    | false =>
      repeat' (first | refine spD (fun _ => ?_) (fun _ => ?_) | refine spF (fun _ => ?_) (fun _ => ?_) | (apply gT; (exact rfl)) | (apply off; (exact rfl); (exact rfl)) | (apply condT; (exact rfl)) | (apply condF; (exact rfl)) | ((first | (apply stp0; (exact rfl); (exact rfl)) | (apply stpN0; (exact rfl)) | apply gT | apply condT); (first | (focus (simp only [go_sem, ↓reduceIte, simprocAttr, t0, t4] <;> rfl)) | exact rfl); (first | (fail_if_success (show okD _ _ _ _ _ _ _ _ _)) | (first | exact okT | exact okN | exact okE rfl))) | refine thenQ_n ?_ | refine thenQ_r ?_ | refine thenQ_e ?_ | refine blockQ_n ?_ | refine blockQ_r ?_ | refine blockQ_e ?_ | (apply blockQ_o; (exact rfl)) | refine Awp.seq ?_ | refine Awp.skip ?_ | refine Awp.block ?_ | refine reg (fun s => false) ?_ | (apply drwE mixed (fun s => false); (kernel_rfl)) | refine fin ?_ | refine Awp.ret ?_ | refine Awp.exit ?_ | ((first | (apply off; (exact rfl)) | apply condF); (first | (focus (simp only [go_sem, ↓reduceIte, simprocAttr, t0, t4] <;> rfl)) | exact rfl)))
      all_goals first | contradiction | (exfalso; omega) | skip
      exact bodyQ_mk (vs := [.rsl [] true]) (.inr rfl) (by rw [Try.results70]; simp only [go_sem, ↓reduceIte, simprocAttr]) (Vs.refl _ _ _) ⟨rfl, rfl⟩
  | row hb hn h0 =>
    rename_i o n v
    have hvl := ints_len v
    rw [List.length_take] at hl
    have hall : (ints v).all (fun e => e.length == 1) = true := by rw [List.all_eq_true]; intro e he; obtain ⟨x, _, rfl⟩ := List.mem_map.1 he; rfl
    have hsr : srcA 1 (.msl o 0 n) H = some ((ints v).take n) := by
      unfold srcA
      simp only [hb]
      rw [if_pos ⟨by omega, hall⟩, List.drop_zero]
    have hl2 : ((ints v).take n).length = n := by rw [List.length_take]; omega
    cases n with
    | zero =>
      have hB : appendB 2 1 8 (.rsl [] true) (.msl o 0 0) H = some (.rsl [] true, H) := by
        unfold appendB
        rw [hsr]; rfl
      refine ⟨.rsl [] true, [], ?_, by rw [List.take_zero]; exact .emp, fun j m e => by cases e⟩
      rw [List.append_nil]
      refine ACalls.of_body Try.func70 rfl (by kernel_rfl) (by rw [Try.ntmps70]; simp) ?_; rw [Try.ntmps70]
      repeat' (first | refine spD (fun _ => ?_) (fun _ => ?_) | refine spF (fun _ => ?_) (fun _ => ?_) | (apply gT; (exact rfl)) | (apply off; (exact rfl); (exact rfl)) | (apply condT; (exact rfl)) | (apply condF; (exact rfl)) | ((first | (apply stp0; (exact rfl); (exact rfl)) | (apply stpN0; (exact rfl)) | apply gT | apply condT); (first | (focus (simp only [go_sem, ↓reduceIte, simprocAttr, hb, hvl, hn, hall, hl2, Nat.zero_add, List.drop_zero, and_self] <;> rfl)) | exact rfl); (first | (fail_if_success (show okD _ _ _ _ _ _ _ _ _)) | (first | exact okT | exact okN | exact okE rfl))) | refine thenQ_n ?_ | refine thenQ_r ?_ | refine thenQ_e ?_ | refine blockQ_n ?_ | refine blockQ_r ?_ | refine blockQ_e ?_ | (apply blockQ_o; (exact rfl)) | refine Awp.seq ?_ | refine Awp.skip ?_ | refine Awp.block ?_ | refine reg (fun s => false) ?_ | (apply drwE mixed (fun s => false); (kernel_rfl)) | refine fin ?_ | refine Awp.ret ?_ | refine Awp.exit ?_ | ((first | (apply off; (exact rfl)) | apply condF); (first | (focus (simp only [go_sem, ↓reduceIte, simprocAttr, hb, hvl, hn, hall, hl2, Nat.zero_add, List.drop_zero, and_self] <;> rfl)) | exact rfl)))
      all_goals first | contradiction | (exfalso; omega) | skip
      exact bodyQ_mk (vs := [.rsl [] true]) (.inr rfl) (by rw [Try.results70]; simp only [go_sem, ↓reduceIte, simprocAttr]) (Vs.refl _ _ _) ⟨rfl, rfl⟩
    | succ n =>
      have ht : ints (v.take (n + 1)) = (ints v).take (n + 1) := by simp [ints, List.map_take]
      have hB : appendB 2 1 8 (.rsl [] true) (.msl o 0 (n + 1)) H = some (.msl H.length 0 (n + 1), H ++ [.cells (ints (v.take (n + 1))) 2]) := by
        unfold appendB
        rw [hsr, ← ht]
        have hl3 : (ints (v.take (n + 1))).length = n + 1 := by rw [ht]; exact hl2
        simp only [hl3, List.length_nil, Nat.zero_add, List.nil_append, List.all_nil, true_and]
        rw [if_neg (by omega), if_pos (by omega)]
      refine ⟨.msl H.length 0 (n + 1), [.cells (ints (v.take (n + 1))) 2], ?_, ?_, fun j m e => by cases e; exact Nat.le_refl _⟩
      · refine ACalls.of_body Try.func70 rfl (by kernel_rfl) (by rw [Try.ntmps70]; simp) ?_; rw [Try.ntmps70]
        have hne : ¬ n + 1 = 0 := by omega
        have hbig : (n + 1) * 8 ≤ 140737488355328 := by omega
        rw [ht]
        repeat' (first | refine spD (fun _ => ?_) (fun _ => ?_) | refine spF (fun _ => ?_) (fun _ => ?_) | (apply gT; (exact rfl)) | (apply off; (exact rfl); (exact rfl)) | (apply condT; (exact rfl)) | (apply condF; (exact rfl)) | ((first | (apply stp0; (exact rfl); (exact rfl)) | (apply stpN0; (exact rfl)) | apply gT | apply condT); (first | (focus (simp only [go_sem, ↓reduceIte, simprocAttr, hb, hvl, hn, hall, hl2, hne, hbig, Nat.zero_add, List.drop_zero, and_self, List.nil_append] <;> rfl)) | exact rfl); (first | (fail_if_success (show okD _ _ _ _ _ _ _ _ _)) | (first | exact okT | exact okN | exact okE rfl))) | refine thenQ_n ?_ | refine thenQ_r ?_ | refine thenQ_e ?_ | refine blockQ_n ?_ | refine blockQ_r ?_ | refine blockQ_e ?_ | (apply blockQ_o; (exact rfl)) | refine Awp.seq ?_ | refine Awp.skip ?_ | refine Awp.block ?_ | refine reg (fun s => false) ?_ | (apply drwE mixed (fun s => false); (kernel_rfl)) | refine fin ?_ | refine Awp.ret ?_ | refine Awp.exit ?_ | ((first | (apply off; (exact rfl)) | apply condF); (first | (focus (simp only [go_sem, ↓reduceIte, simprocAttr, hb, hvl, hn, hall, hl2, hne, hbig, Nat.zero_add, List.drop_zero, and_self, List.nil_append] <;> rfl)) | exact rfl)))
        all_goals first | contradiction | (exfalso; omega) | skip
        exact bodyQ_mk (vs := [.msl H.length 0 (n + 1)]) (.inr rfl) (by rw [Try.results70]; simp only [go_sem, ↓reduceIte, simprocAttr]) (Vs.refl _ _ _) ⟨rfl, rfl⟩
      · have := OrdAt.row (H := H ++ [.cells (ints (v.take (n + 1))) 2]) (o := H.length) (n := n + 1) (v := v.take (n + 1)) (get_new _ _) (by rw [List.length_take]; omega) (by rw [List.length_take]; omega)
        rwa [List.take_take, Nat.min_self] at this

end Go.Proofs.Ytlhchnnfgppneaa.Ab
