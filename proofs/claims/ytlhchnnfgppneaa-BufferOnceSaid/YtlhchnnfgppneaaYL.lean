/- Buffers: what Put keeps, in short. The law's acts; long. Inboxes: Acks. Acknowledgements: gaps. The reference's sets: Within, Valid, IsIn. The reference's CheckSet. The program's check of one span. -/
import Derived.Test.YtlhchnnfgppneaaYK
import Derived.Test.YtlhchnnfgppneaaYJ
namespace Go.Proofs.Ytlhchnnfgppneaa.Ab
open Go Go.RowKit Go.Proofs
set_option linter.unusedSimpArgs false
set_option linter.unusedVariables false
attribute [local irreducible] Awp wpO thenQ blockQ bodyQ ACalls stepA

def u8v (x : Int) : AV := .val (.int .u8 x)
theorem keptL {S : Bf} {r : Item} (hg : Good S) (hl : S.L.length ≤ 255) (hE : putE S r = 0) : Good (putR S r).1 ∧ (putR S r).1.cap = S.cap ∧ (putR S r).1.time = S.time ∧ (putR S r).1.L.length + (putR S r).2.length = S.L.length + 1 := by
  obtain ⟨hr, hm⟩ : r.ok ∧ r.id ∉ idsL S.L := by
    rcases putE_ok S r with ⟨_, _, h⟩ | ⟨h1, _, ⟨_, h⟩ | ⟨h2, ⟨_, h⟩ | ⟨_, _⟩⟩⟩
    · rw [hE] at h; cases h
    · rw [hE] at h; cases h
    · rw [hE] at h; cases h
    · exact ⟨h1, h2⟩
  obtain ⟨hs, _⟩ := shr_spec (S.ins r).mu (Shr.start (hg.insG (by omega) hr hm)) (Nat.le_refl _)
  have hP : putR S r = shr (S.ins r).mu (S.ins r) [] := by unfold putR; rw [if_pos hE]
  rw [← hP] at hs
  exact ⟨hs.good, hs.cap, hs.time, by rw [hs.len]; exact insA_len⟩
theorem put_good {S : Bf} {r : Item} (hg : Good S) (hl : S.L.length ≤ 255) : Good (putR S r).1 ∧ (putR S r).1.time = S.time ∧ (putR S r).1.L.length ≤ S.L.length + 1 := by
  by_cases h : putE S r = 0
  · obtain ⟨k1, _, k3, k4⟩ := keptL hg hl h
    exact ⟨k1, k3, by omega⟩
  · have : putR S r = (S, []) := by unfold putR; rw [if_neg h]
    rw [this]; exact ⟨hg, rfl, by simp⟩

def sumH (L : List Hd) : Int := (L.map Hd.bytes).sum
theorem sumH_succ {L : List Hd} {k : Nat} {h : Hd} (hk : L[k]? = some h) : sumH (L.take (k + 1)) = sumH (L.take k) + h.bytes := by
  unfold sumH
  rw [List.take_add_one, hk]; simp
theorem sumH_in : ∀ L : List Hd, (∀ h ∈ L, h.r.ok) → 0 ≤ sumH L ∧ sumH L ≤ 16777216 * L.length := by
  intro L
  induction L with
  | nil => simp [sumH]
  | cons x l ih =>
    intro h
    have h1 := ih fun y hy => h y (by simp [hy])
    have h2 := h x (by simp)
    simp only [Item.ok] at h2
    have e : sumH (x :: l) = x.bytes + sumH l := by simp [sumH]
    have e2 : (16777216 : Int) * ((x :: l).length : Nat) = 16777216 * l.length + 16777216 := by rw [List.length_cons, Int.natCast_succ, Int.mul_add, Int.mul_one]
    have hb : 1 ≤ x.bytes ∧ x.bytes ≤ 16777216 := by unfold Hd.bytes; split <;> omega
    omega
def keepL (f : Int → Bool) (L : List Hd) : List Hd := L.filter fun h => !f h.r.id
theorem keepL_succ {f : Int → Bool} {L : List Hd} {i : Nat} {h : Hd} (hi : L[i]? = some h) : keepL f (L.take (i + 1)) = if f h.r.id then keepL f (L.take i) else keepL f (L.take i) ++ [h] := by
  unfold keepL
  rw [List.take_add_one, hi, List.filter_append]
  cases e : f h.r.id <;> simp [e]

end Go.Proofs.Ytlhchnnfgppneaa.Ab
namespace Go.Proofs.Ytlhchnnfgppneaa.Ab
open Go Go.RowKit Go.Proofs
set_option linter.unusedSimpArgs false
set_option linter.unusedVariables false
attribute [local irreducible] Awp wpO thenQ blockQ bodyQ ACalls stepA

def sps (l : List (Int × Int)) : List (List AV) := l.map fun p => [iv p.1, iv p.2]
theorem sps_len (l : List (Int × Int)) : (sps l).length = l.length := by simp [sps]
/-- something that is done -/
structure Ax where
  kind : Int
  r : Item
  bytes : Int
  t : Int
  wait : Int
  s : List (Int × Int)
  ex : Bool
def Ax.cs (a : Ax) : List AV := [u8v a.kind, iv a.r.id, iv a.r.cls, iv a.r.made, iv a.r.size, iv a.r.pk, iv a.bytes, iv a.t, iv a.wait, .rsl (sps a.s) a.ex]
def axs (l : List Ax) : List (List AV) := l.map Ax.cs
theorem axs_len (l : List Ax) : (axs l).length = l.length := by simp [axs]
theorem axs_at {l : List Ax} {i : Nat} {a : Ax} (h : l[i]? = some a) : (axs l)[i]? = some [u8v a.kind, iv a.r.id, iv a.r.cls, iv a.r.made, iv a.r.size, iv a.r.pk, iv a.bytes, iv a.t, iv a.wait, .rsl (sps a.s) a.ex] := nthMap Ax.cs h
def longB (l : List Ax) (n : Int) : Bool := decide ((l.length : Int) > n) || l.any fun a => decide ((a.s.length : Int) > 30)
theorem any_drop {l : List Ax} {i : Nat} {a : Ax} {f : Ax → Bool} (h : l[i]? = some a) : (l.drop i).any f = (f a || (l.drop (i + 1)).any f) := by
  have hlt := (List.getElem?_eq_some_iff.1 h).1
  rw [List.drop_eq_getElem_cons hlt, (List.getElem?_eq_some_iff.1 h).2]
  rfl

set_option maxRecDepth 8000 in
theorem long_ok (H : Hp) (l : List Ax) (ex : Bool) (n : Int) (hm : l.length ≤ maxLen) : CallsTo Try.prog 30 [.rsl (axs l) ex, iv n] H (bv (longB l n)) H := by
  have hvl := axs_len l
  unfold longB
  by_cases hn : (l.length : Int) > n
  · rw [decide_eq_true hn, Bool.true_or]
    refine ACalls.of_body Try.func30 rfl (by kernel_rfl) (by rw [Try.ntmps30]; simp) ?_; rw [Try.ntmps30]
    repeat' (first | refine spD (fun _ => ?_) (fun _ => ?_) | refine spF (fun _ => ?_) (fun _ => ?_) | (apply gT; (exact rfl)) | (apply off; (exact rfl); (exact rfl)) | (apply condT; (exact rfl)) | (apply condF; (exact rfl)) | ((first | (apply stp0; (exact rfl); (exact rfl)) | (apply stpN0; (exact rfl)) | apply gT | apply condT | ((first | apply bodyQ_d0 | apply bodyQ_d1 | apply bodyQ_d2 | apply bodyQ_d3 | apply bodyQ_d4); (exact .inr rfl); (rw [Try.results30]))); (first | (focus (simp only [go_sem, ↓reduceIte, simprocAttr, hvl, hn] <;> rfl)) | exact rfl); (first | (fail_if_success (show okD _ _ _ _ _ _ _ _ _)) | (first | exact okT | exact okN | exact okE rfl)); (first | (fail_if_success (show Bel _ _)) | (focus first | exact .val _ | (simp [oneOf, Bel_iff_tup, Bel_iff_agg, Bel_iff_rsl, Bel_iff_fn, Bel_iff_rptr, Bel_val]; done)))) | refine thenQ_n ?_ | refine thenQ_r ?_ | refine thenQ_e ?_ | refine blockQ_n ?_ | refine blockQ_r ?_ | refine blockQ_e ?_ | (apply blockQ_o; (exact rfl)) | refine Awp.seq ?_ | refine Awp.skip ?_ | refine Awp.block ?_ | refine reg (fun s => false) ?_ | (apply drwE mixed (fun s => false); (kernel_rfl)) | refine fin ?_ | refine Awp.ret ?_ | refine Awp.exit ?_ | ((first | (apply off; (exact rfl)) | apply condF); (first | (focus (simp only [go_sem, ↓reduceIte, simprocAttr, hvl, hn] <;> rfl)) | exact rfl)))
    all_goals first | contradiction | (exfalso; omega) | rfl | skip
  · rw [decide_eq_false hn, Bool.false_or]
    refine ACalls.of_body Try.func30 rfl (by kernel_rfl) (by rw [Try.ntmps30]; simp) ?_; rw [Try.ntmps30]
    repeat' (first | refine spD (fun _ => ?_) (fun _ => ?_) | refine spF (fun _ => ?_) (fun _ => ?_) | (apply gT; (exact rfl)) | (apply off; (exact rfl); (exact rfl)) | (apply condT; (exact rfl)) | (apply condF; (exact rfl)) | ((first | (apply stp0; (exact rfl); (exact rfl)) | (apply stpN0; (exact rfl)) | apply gT | apply condT | ((first | apply bodyQ_d0 | apply bodyQ_d1 | apply bodyQ_d2 | apply bodyQ_d3 | apply bodyQ_d4); (exact .inr rfl); (rw [Try.results30]))); (first | (focus (simp only [go_sem, ↓reduceIte, simprocAttr, hvl, hn] <;> rfl)) | exact rfl); (first | (fail_if_success (show okD _ _ _ _ _ _ _ _ _)) | (first | exact okT | exact okN | exact okE rfl)); (first | (fail_if_success (show Bel _ _)) | (focus first | exact .val _ | (simp [oneOf, Bel_iff_tup, Bel_iff_agg, Bel_iff_rsl, Bel_iff_fn, Bel_iff_rptr, Bel_val]; done)))) | refine thenQ_n ?_ | refine thenQ_r ?_ | refine thenQ_e ?_ | refine blockQ_n ?_ | refine blockQ_r ?_ | refine blockQ_e ?_ | (apply blockQ_o; (exact rfl)) | refine Awp.seq ?_ | refine Awp.skip ?_ | refine Awp.block ?_ | refine reg (fun s => false) ?_ | (apply drwE mixed (fun s => false); (kernel_rfl)) | refine fin ?_ | refine Awp.ret ?_ | refine Awp.exit ?_ | ((first | (apply off; (exact rfl)) | apply condF); (first | (focus (simp only [go_sem, ↓reduceIte, simprocAttr, hvl, hn] <;> rfl)) | exact rfl)))
    all_goals first | contradiction | (exfalso; omega) | skip
    refine Awp.loop (ι := Nat) (fun i T' K => i ≤ l.length ∧ T' 5 = iv i ∧ T' 0 = .rsl (axs l) ex ∧ K = H ∧ (l.any fun a => decide ((a.s.length : Int) > 30)) = ((l.drop i).any fun a => decide ((a.s.length : Int) > 30))) (fun i => l.length - i) 0 ?_ ?_
    · refine ⟨Nat.zero_le _, ?_, ?_, rfl, by rw [List.drop_zero]⟩
      · (first | (focus (simp only [go_sem, ↓reduceIte, simprocAttr]; first | done | rfl)) | rfl)
      · (first | (focus (simp only [go_sem, ↓reduceIte, simprocAttr]; first | done | rfl)) | rfl)
    rintro i T K ⟨hi, t5, t0, hK, hf⟩
    rw [hK]
    by_cases hlt : i < l.length
    · obtain ⟨a, ha⟩ := nth hlt
      have hc := axs_at ha
      have hsl := sps_len a.s
      have hsu := wsucc hlt hm
      rw [any_drop ha] at hf
      by_cases h30 : (a.s.length : Int) > 30
      · rw [decide_eq_true h30, Bool.true_or] at hf
        rw [hf]
        repeat' (first | refine spD (fun _ => ?_) (fun _ => ?_) | refine spF (fun _ => ?_) (fun _ => ?_) | (apply gT; (exact rfl)) | (apply off; (exact rfl); (exact rfl)) | (apply condT; (exact rfl)) | (apply condF; (exact rfl)) | ((first | (apply stp0; (exact rfl); (exact rfl)) | (apply stpN0; (exact rfl)) | apply gT | apply condT | ((first | apply bodyQ_d0 | apply bodyQ_d1 | apply bodyQ_d2 | apply bodyQ_d3 | apply bodyQ_d4); (exact .inr rfl); (rw [Try.results30]))); (first | (focus (simp only [go_sem, ↓reduceIte, simprocAttr, Int.ofNat_lt.2 hlt, t5, t0, hvl, hc, hsl, h30] <;> rfl)) | exact rfl); (first | (fail_if_success (show okD _ _ _ _ _ _ _ _ _)) | (first | exact okT | exact okN | exact okE rfl)); (first | (fail_if_success (show Bel _ _)) | (focus first | exact .val _ | (simp [oneOf, Bel_iff_tup, Bel_iff_agg, Bel_iff_rsl, Bel_iff_fn, Bel_iff_rptr, Bel_val]; done)))) | refine thenQ_n ?_ | refine thenQ_r ?_ | refine thenQ_e ?_ | refine blockQ_n ?_ | refine blockQ_r ?_ | refine blockQ_e ?_ | (apply blockQ_o; (exact rfl)) | refine Awp.seq ?_ | refine Awp.skip ?_ | refine Awp.block ?_ | refine reg (fun s => false) ?_ | (apply drwE mixed (fun s => false); (kernel_rfl)) | refine fin ?_ | refine Awp.ret ?_ | refine Awp.exit ?_ | ((first | (apply off; (exact rfl)) | apply condF); (first | (focus (simp only [go_sem, ↓reduceIte, simprocAttr, Int.ofNat_lt.2 hlt, t5, t0, hvl, hc, hsl, h30] <;> rfl)) | exact rfl)))
        all_goals first | contradiction | (exfalso; omega) | rfl | skip
      · rw [decide_eq_false h30, Bool.false_or] at hf
        repeat' (first | refine spD (fun _ => ?_) (fun _ => ?_) | refine spF (fun _ => ?_) (fun _ => ?_) | (apply gT; (exact rfl)) | (apply off; (exact rfl); (exact rfl)) | (apply condT; (exact rfl)) | (apply condF; (exact rfl)) | ((first | (apply stp0; (exact rfl); (exact rfl)) | (apply stpN0; (exact rfl)) | apply gT | apply condT | ((first | apply bodyQ_d0 | apply bodyQ_d1 | apply bodyQ_d2 | apply bodyQ_d3 | apply bodyQ_d4); (exact .inr rfl); (rw [Try.results30]))); (first | (focus (simp only [go_sem, ↓reduceIte, simprocAttr, Int.ofNat_lt.2 hlt, t5, t0, hvl, hc, hsl, h30, hsu] <;> rfl)) | exact rfl); (first | (fail_if_success (show okD _ _ _ _ _ _ _ _ _)) | (first | exact okT | exact okN | exact okE rfl)); (first | (fail_if_success (show Bel _ _)) | (focus first | exact .val _ | (simp [oneOf, Bel_iff_tup, Bel_iff_agg, Bel_iff_rsl, Bel_iff_fn, Bel_iff_rptr, Bel_val]; done)))) | refine thenQ_n ?_ | refine thenQ_r ?_ | refine thenQ_e ?_ | refine blockQ_n ?_ | refine blockQ_r ?_ | refine blockQ_e ?_ | (apply blockQ_o; (exact rfl)) | refine Awp.seq ?_ | refine Awp.skip ?_ | refine Awp.block ?_ | refine reg (fun s => false) ?_ | (apply drwE mixed (fun s => false); (kernel_rfl)) | refine fin ?_ | refine Awp.ret ?_ | refine Awp.exit ?_ | ((first | (apply off; (exact rfl)) | apply condF); (first | (focus (simp only [go_sem, ↓reduceIte, simprocAttr, Int.ofNat_lt.2 hlt, t5, t0, hvl, hc, hsl, h30, hsu] <;> rfl)) | exact rfl)))
        all_goals first | contradiction | (exfalso; omega) | skip
        refine ⟨i + 1, ⟨hlt, ?_, ?_, rfl, hf⟩, Nat.sub_lt_sub_left hlt (Nat.lt_succ_self i)⟩
        · (first | (focus (simp only [go_sem, ↓reduceIte, simprocAttr, hsu]; first | done | rfl)) | rfl)
        · (first | (focus (simp only [go_sem, ↓reduceIte, simprocAttr, t0]; first | done | rfl)) | rfl)
    · have hie : i = l.length := Nat.le_antisymm hi (Nat.not_lt.1 hlt)
      subst hie
      rw [List.drop_length] at hf
      rw [hf]
      repeat' (first | refine spD (fun _ => ?_) (fun _ => ?_) | refine spF (fun _ => ?_) (fun _ => ?_) | (apply gT; (exact rfl)) | (apply off; (exact rfl); (exact rfl)) | (apply condT; (exact rfl)) | (apply condF; (exact rfl)) | ((first | (apply stp0; (exact rfl); (exact rfl)) | (apply stpN0; (exact rfl)) | apply gT | apply condT | ((first | apply bodyQ_d0 | apply bodyQ_d1 | apply bodyQ_d2 | apply bodyQ_d3 | apply bodyQ_d4); (exact .inr rfl); (rw [Try.results30]))); (first | (focus (simp only [go_sem, ↓reduceIte, simprocAttr, Int.lt_irrefl, t5, t0, hvl] <;> rfl)) | exact rfl); (first | (fail_if_success (show okD _ _ _ _ _ _ _ _ _)) | (first | exact okT | exact okN | exact okE rfl)); (first | (fail_if_success (show Bel _ _)) | (focus first | exact .val _ | (simp [oneOf, Bel_iff_tup, Bel_iff_agg, Bel_iff_rsl, Bel_iff_fn, Bel_iff_rptr, Bel_val]; done)))) | refine thenQ_n ?_ | refine thenQ_r ?_ | refine thenQ_e ?_ | refine blockQ_n ?_ | refine blockQ_r ?_ | refine blockQ_e ?_ | (apply blockQ_o; (exact rfl)) | refine Awp.seq ?_ | refine Awp.skip ?_ | refine Awp.block ?_ | refine reg (fun s => false) ?_ | (apply drwE mixed (fun s => false); (kernel_rfl)) | refine fin ?_ | refine Awp.ret ?_ | refine Awp.exit ?_ | ((first | (apply off; (exact rfl)) | apply condF); (first | (focus (simp only [go_sem, ↓reduceIte, simprocAttr, Int.lt_irrefl, t5, t0, hvl] <;> rfl)) | exact rfl)))
      all_goals first | contradiction | (exfalso; omega) | rfl | skip

end Go.Proofs.Ytlhchnnfgppneaa.Ab
namespace Go.Proofs.Ytlhchnnfgppneaa.Ab
open Go Go.RowKit Go.Proofs
set_option linter.unusedSimpArgs false
set_option linter.unusedVariables false
attribute [local irreducible] Awp wpO thenQ blockQ bodyQ ACalls stepA

/-- one more record is acknowledged -/
def ackStep (l : List (Int × Int)) (id : Int) : List (Int × Int) := match l.getLast? with
  | some p => if p.2 + 1 = id then l.dropLast ++ [(p.1, id)] else l ++ [(id, id)]
  | none => l ++ [(id, id)]
def ackT (R : List Item) (i : Nat) : List (Int × Int) := ((idsR R).take i).foldl ackStep []
def ackL (R : List Item) : List (Int × Int) := ackT R R.length
theorem ackT_succ {R : List Item} {i : Nat} {r : Item} (h : R[i]? = some r) : ackT R (i + 1) = ackStep (ackT R i) r.id := by
  unfold ackT
  have : (idsR R)[i]? = some r.id := by unfold idsR; rw [List.getElem?_map, h]; rfl
  rw [List.take_add_one, this]
  simp [List.foldl_append]
theorem sps_two (l : List (Int × Int)) : ∀ e ∈ sps l, e.length = 2 := by intro e he; obtain ⟨r, _, rfl⟩ := List.mem_map.1 he; rfl
theorem sps_plain (l : List (Int × Int)) : Plain (sps l) := by
  intro e he a ha
  obtain ⟨r, _, rfl⟩ := List.mem_map.1 he
  simp only [List.mem_cons, List.not_mem_nil, or_false] at ha
  rcases ha with rfl | rfl <;> exact ⟨_, rfl⟩
theorem ackStep_len (l : List (Int × Int)) (x : Int) : (ackStep l x).length ≤ l.length + 1 := by
  unfold ackStep
  split
  · split <;> simp
  · simp
theorem ackT_len (R : List Item) : ∀ i, (ackT R i).length ≤ i := by
  intro i
  induction i with
  | zero => simp [ackT]
  | succ i ih =>
    cases h : R[i]? with
    | some r => rw [ackT_succ h]; have := ackStep_len (ackT R i) r.id; omega
    | none =>
      have hle : R.length ≤ i := List.getElem?_eq_none_iff.1 h
      have e : ackT R (i + 1) = ackT R i := by
        unfold ackT
        rw [List.take_of_length_le (by simp [idsR]; omega), List.take_of_length_le (by simp [idsR]; omega)]
      rw [e]; omega

theorem ackStep_app (l0 : List (Int × Int)) (p : Int × Int) (x : Int) : ackStep (l0 ++ [p]) x = if p.2 + 1 = x then l0 ++ [(p.1, x)] else l0 ++ [p] ++ [(x, x)] := by
  unfold ackStep
  simp
theorem ackT_in (R : List Item) : ∀ i, ∀ p ∈ ackT R i, p.1 ∈ idsR R ∧ p.2 ∈ idsR R := by
  intro i
  induction i with
  | zero => simp [ackT]
  | succ i ih =>
    cases h : R[i]? with
    | some r =>
      rw [ackT_succ h]
      have hr : r.id ∈ idsR R := List.mem_map.2 ⟨r, List.mem_of_getElem? h, rfl⟩
      intro p hp
      rcases List.eq_nil_or_concat (ackT R i) with e | ⟨l0, q, e⟩
      · rw [e] at hp
        simp [ackStep] at hp
        subst hp; exact ⟨hr, hr⟩
      · rw [List.concat_eq_append] at e
        rw [e, ackStep_app] at hp
        rw [e] at ih
        have hq := ih q (by simp)
        split at hp
        · rcases List.mem_append.1 hp with hp | hp
          · exact ih p (by simp [hp])
          · simp at hp; subst hp; exact ⟨hq.1, hr⟩
        · rcases List.mem_append.1 hp with hp | hp
          · exact ih p hp
          · simp at hp; subst hp; exact ⟨hr, hr⟩
    | none =>
      have hle : R.length ≤ i := List.getElem?_eq_none_iff.1 h
      have e : ackT R (i + 1) = ackT R i := by
        unfold ackT
        rw [List.take_of_length_le (by simp [idsR]; omega), List.take_of_length_le (by simp [idsR]; omega)]
      rw [e]; exact ih

/-- a row of spans of one's own -/
inductive OutS (lo : Nat) (H : Hp) : AV → List (Int × Int) → Prop
  | nil : OutS lo H nilS []
  | row {b : Nat} {v : List (Int × Int)} (hne : v ≠ []) (hlo : lo ≤ b) (hb : H[b]? = some (.cells (sps v) 70)) : OutS lo H (.msl b 0 v.length) v
theorem OutS.own {lo : Nat} {H : Hp} {a : AV} {v : List (Int × Int)} (h : OutS lo H a v) : Own lo 70 H a (sps v) := by
  cases h with
  | nil => exact .nil
  | row hne hlo hb =>
    have := Own.row (lo := lo) (t := 70) (H := H) (es := sps v) (by intro e; exact hne (List.eq_nil_of_length_eq_zero (by rw [← sps_len v, e]; rfl))) hlo hb
    rw [sps_len] at this
    exact this
theorem OutS.grow {lo : Nat} {H H' : Hp} {a : AV} {v : List (Int × Int)} (h : OutS lo H a v) (hG : Grow H H') : OutS lo H' a v := by
  cases h with
  | nil => exact .nil
  | row hne hlo hb => exact .row hne hlo (hG.get hb)
theorem OutS.next {lo : Nat} {K : Hp} {a : AV} {v : List (Int × Int)} (_ : OutS lo K a v) (hl : lo ≤ K.length) (x : Int × Int) {n m : Nat} (hn : n = K.length) (hm : m = v.length + 1) : OutS lo (ownK K a ++ [.cells (sps v ++ [[iv x.1, iv x.2]]) 70]) (.msl n 0 m) (v ++ [x]) := by
  subst hn hm
  have e : sps v ++ [[iv x.1, iv x.2]] = sps (v ++ [x]) := by simp [sps]
  have e2 : v.length + 1 = (v ++ [x]).length := by simp
  rw [e, e2]
  refine .row (by simp) hl ?_
  have := get_new (ownK K a) (.cells (sps (v ++ [x])) 70)
  rw [ownK_len] at this
  exact this

set_option maxRecDepth 8000 in
set_option maxHeartbeats 4000000 in
theorem acksX {H : Hp} {m : Nat} {R : List Item} (hX : Ibx H m R) (hl : R.length ≤ 300) : CallsTo Try.prog 42 [.rptr [.mp m] 0] H (.rsl (sps (ackL R)) false) H := by
  have hrec := recordsX hX hl
  have hvl := its_len R
  have hlm : R.length ≤ maxLen := by simp only [maxLen]; omega
  refine ACalls.of_body Try.func42 rfl (by kernel_rfl) (by rw [Try.ntmps42]; simp) ?_; rw [Try.ntmps42]
  repeat' (first | refine spD (fun _ => ?_) (fun _ => ?_) | refine spF (fun _ => ?_) (fun _ => ?_) | (apply gT; (exact rfl)) | (apply off; (exact rfl); (exact rfl)) | (apply condT; (exact rfl)) | (apply condF; (exact rfl)) | ((first | (apply stp0; (exact rfl); (exact rfl)) | (apply stpN0; (exact rfl)) | apply gT | apply condT | ((first | apply bodyQ_d0 | apply bodyQ_d1 | apply bodyQ_d2 | apply bodyQ_d3 | apply bodyQ_d4); (exact .inr rfl); (rw [Try.results42]))); (first | (focus (simp only [go_sem, ↓reduceIte, simprocAttr, hvl] <;> rfl)) | exact rfl); (first | (fail_if_success (show okD _ _ _ _ _ _ _ _ _)) | (first | exact okT | exact okN | exact okE rfl)); (first | (fail_if_success (show Bel _ _)) | (focus first | exact .val _ | (simp [oneOf, Bel_iff_tup, Bel_iff_agg, Bel_iff_rsl, Bel_iff_fn, Bel_iff_rptr, Bel_val]; done)))) | (apply calTo0; (exact rfl); (iterate 2 (simp only [go_sem, ↓reduceIte, simprocAttr, hvl]; rfl)); (first | exact hrec); (first | exact okT | exact okN | exact okE rfl)) | refine thenQ_n ?_ | refine thenQ_r ?_ | refine thenQ_e ?_ | refine blockQ_n ?_ | refine blockQ_r ?_ | refine blockQ_e ?_ | (apply blockQ_o; (exact rfl)) | refine Awp.seq ?_ | refine Awp.skip ?_ | refine Awp.block ?_ | refine reg (fun s => s == 5) ?_ | (apply drwE mixed (fun s => s == 5); (kernel_rfl)) | refine fin ?_ | refine Awp.ret ?_ | refine Awp.exit ?_ | ((first | (apply off; (exact rfl)) | apply condF); (first | (focus (simp only [go_sem, ↓reduceIte, simprocAttr, hvl] <;> rfl)) | exact rfl)))
  all_goals first | contradiction | (exfalso; omega) | skip
  refine Awp.loop (ι := Nat) (fun i T' K => i ≤ R.length ∧ T' 10 = iv i ∧ T' 9 = iv R.length ∧ T' 8 = .rsl (its R) false ∧ Grow H K ∧ ∃ a, T' 3 = a ∧ OutS H.length K a (ackT R i)) (fun i => R.length - i) 0 ?_ ?_
  · refine ⟨Nat.zero_le _, ?_, ?_, ?_, Grow.refl _, nilS, ?_, .nil⟩
    · (first | (focus (simp only [go_sem, ↓reduceIte, simprocAttr]; first | done | rfl)) | rfl)
    · (first | (focus (simp only [go_sem, ↓reduceIte, simprocAttr, hvl]; first | done | rfl)) | rfl)
    · (first | (focus (simp only [go_sem, ↓reduceIte, simprocAttr]; first | done | rfl)) | rfl)
    · (first | (focus (simp only [go_sem, ↓reduceIte, simprocAttr]; first | done | rfl)) | rfl)
  rintro i T K ⟨hi, t10, t9, t8, hG, a, t3, hO⟩
  by_cases hlt : i < R.length
  · obtain ⟨r, hr⟩ := nth hlt
    have hrc := its_at hr
    have hsu := wsucc hlt hlm
    have hrok := hX.ok r (List.mem_of_getElem? hr)
    have hTs := ackT_succ hr
    have hTl := ackT_len R i
    have hlt' := Int.ofNat_lt.2 hlt
    have hGK := hG.app [.cells [[iv r.id, iv r.cls, iv r.made, iv r.size, iv r.pk]] 23]
    have hx0 := get_new K (.cells [[iv r.id, iv r.cls, iv r.made, iv r.size, iv r.pk]] 23)
    have hOK := hO.grow ((Grow.refl K).app [.cells [[iv r.id, iv r.cls, iv r.made, iv r.size, iv r.pk]] 23])
    have hxl : H.length ≤ K.length := hG.len
    obtain ⟨l, hlv⟩ : ∃ l, l = ackT R i := ⟨_, rfl⟩
    rw [← hlv] at hTs hTl hOK
    repeat' ((fail_if_success (apply stopR (id := 5))); (fail_if_success (apply stopS (id := 5))); first | refine spD (fun _ => ?_) (fun _ => ?_) | refine spF (fun _ => ?_) (fun _ => ?_) | (apply gT; (exact rfl)) | (apply off; (exact rfl); (exact rfl)) | (apply condT; (exact rfl)) | (apply condF; (exact rfl)) | ((first | (apply stp0; (exact rfl); (exact rfl)) | (apply stpN0; (exact rfl)) | apply gT | apply condT | ((first | apply bodyQ_d0 | apply bodyQ_d1 | apply bodyQ_d2 | apply bodyQ_d3 | apply bodyQ_d4); (exact .inr rfl); (rw [Try.results42]))); (first | (focus (simp only [go_sem, ↓reduceIte, simprocAttr, hlt', t10, t9, t8, hrc, hvl] <;> rfl)) | exact rfl); (first | (fail_if_success (show okD _ _ _ _ _ _ _ _ _)) | (first | exact okT | exact okN | exact okE rfl)); (first | (fail_if_success (show Bel _ _)) | (focus first | exact .val _ | (simp [oneOf, Bel_iff_tup, Bel_iff_agg, Bel_iff_rsl, Bel_iff_fn, Bel_iff_rptr, Bel_val]; done)))) | refine thenQ_n ?_ | refine thenQ_r ?_ | refine thenQ_e ?_ | refine blockQ_n ?_ | refine blockQ_r ?_ | refine blockQ_e ?_ | (apply blockQ_o; (exact rfl)) | refine Awp.seq ?_ | refine Awp.skip ?_ | refine Awp.block ?_ | refine reg (fun s => s == 5) ?_ | (apply drwE mixed (fun s => s == 5); (kernel_rfl)) | refine fin ?_ | refine Awp.ret ?_ | refine Awp.exit ?_ | ((first | (apply off; (exact rfl)) | apply condF); (first | (focus (simp only [go_sem, ↓reduceIte, simprocAttr, hlt', t10, t9, t8, hrc, hvl] <;> rfl)) | exact rfl)))
    all_goals first | contradiction | (exfalso; omega) | skip
    refine Awp.withT (fun T' => T' 10 = iv i ∧ T' 9 = iv R.length ∧ T' 8 = .rsl (its R) false ∧ T' 3 = a ∧ T' 5 = .mptr K.length 0 0) ⟨by (first | (focus (simp only [go_sem, ↓reduceIte, simprocAttr, t10]; first | done | rfl)) | rfl), by (first | (focus (simp only [go_sem, ↓reduceIte, simprocAttr, t9]; first | done | rfl)) | rfl), by (first | (focus (simp only [go_sem, ↓reduceIte, simprocAttr, t8]; first | done | rfl)) | rfl), by (first | (focus (simp only [go_sem, ↓reduceIte, simprocAttr, t3]; first | done | rfl)) | rfl), by (first | (focus (simp only [go_sem, ↓reduceIte, simprocAttr]; first | done | rfl)) | rfl)⟩ ?_
    clear t10 t9 t8 t3 T hO
    rintro T ⟨t10, t9, t8, t3, t5⟩
    generalize K ++ [AObj.cells [[iv r.id, iv r.cls, iv r.made, iv r.size, iv r.pk]] 23] = J at *
    generalize K.length = x at *
    cases hOK with
    | nil =>
      have e : ackT R (i + 1) = [(r.id, r.id)] := by rw [hTs]; rfl
      have hOR : OwnR H.length 70 2 16 J nilS [] := ⟨.nil, by simp, by simp⟩
      repeat' (first | refine spD (fun _ => ?_) (fun _ => ?_) | refine spF (fun _ => ?_) (fun _ => ?_) | (apply gT; (exact rfl)) | (apply off; (exact rfl); (exact rfl)) | (apply condT; (exact rfl)) | (apply condF; (exact rfl)) | ((first | (apply stp0; (exact rfl); (exact rfl)) | (apply stpN0; (exact rfl)) | apply gT | apply condT | ((first | apply bodyQ_d0 | apply bodyQ_d1 | apply bodyQ_d2 | apply bodyQ_d3 | apply bodyQ_d4); (exact .inr rfl); (rw [Try.results42]))); (first | (focus (simp only [go_sem, ↓reduceIte, simprocAttr, t10, t9, t8, t3, t5, hx0, hsu] <;> rfl)) | exact rfl); (first | (fail_if_success (show okD _ _ _ _ _ _ _ _ _)) | (first | exact okT | exact okN | exact okE rfl)); (first | (fail_if_success (show Bel _ _)) | (focus first | exact .val _ | (simp [oneOf, Bel_iff_tup, Bel_iff_agg, Bel_iff_rsl, Bel_iff_fn, Bel_iff_rptr, Bel_val]; done)))) | (apply stpApp; (exact rfl); (first | exact hOR); (iterate 2 (first | (focus (simp only [go_sem, ↓reduceIte, simprocAttr, t10, t9, t8, t3, t5, hx0, hsu] <;> rfl)) | rfl)); (first | rfl | (simp [AV.isCell]; done)); (first | rfl | (simp; done)); (first | exact ap39 | exact ap44 | exact ap46 | exact ap61 | exact ap63 | exact ap75 | exact ap86 | exact ap101 | exact ap102); (first | exact okT | exact okN | exact okE rfl)) | refine thenQ_n ?_ | refine thenQ_r ?_ | refine thenQ_e ?_ | refine blockQ_n ?_ | refine blockQ_r ?_ | refine blockQ_e ?_ | (apply blockQ_o; (exact rfl)) | refine Awp.seq ?_ | refine Awp.skip ?_ | refine Awp.block ?_ | refine reg (fun s => s == 5) ?_ | (apply drwE mixed (fun s => s == 5); (kernel_rfl)) | refine fin ?_ | refine Awp.ret ?_ | refine Awp.exit ?_ | ((first | (apply off; (exact rfl)) | apply condF); (first | (focus (simp only [go_sem, ↓reduceIte, simprocAttr, t10, t9, t8, t3, t5, hx0, hsu] <;> rfl)) | exact rfl)))
      all_goals first | contradiction | (exfalso; omega) | skip
      refine ⟨i + 1, ⟨hlt, ?_, ?_, ?_, ?_, .msl J.length 0 1, ?_, ?_⟩, Nat.sub_lt_sub_left hlt (Nat.lt_succ_self i)⟩
      · (first | (focus (simp only [go_sem, ↓reduceIte, simprocAttr, hsu]; first | done | rfl)) | rfl)
      · (first | (focus (simp only [go_sem, ↓reduceIte, simprocAttr, t9]; first | done | rfl)) | rfl)
      · (first | (focus (simp only [go_sem, ↓reduceIte, simprocAttr, t8]; first | done | rfl)) | rfl)
      · exact hGK.app _
      · (first | (focus (simp only [go_sem, ↓reduceIte, simprocAttr]; first | done | rfl)) | rfl)
      · rw [e]; exact .row (v := [(r.id, r.id)]) (by simp) hGK.len (get_new _ _)
    | row hne hlo hb =>
      rename_i b
      obtain ⟨l0, p, hlp⟩ : ∃ l0 p, l = l0 ++ [p] := by
        rcases List.eq_nil_or_concat l with h | ⟨l0, p, h⟩
        · exact absurd h hne
        · exact ⟨l0, p, by rw [h, List.concat_eq_append]⟩
      have hpin := ackT_in R i p (by rw [← hlv, hlp]; simp)
      have hp2 : 0 ≤ p.2 ∧ p.2 ≤ 1073741824 := by
        obtain ⟨z, hz, e⟩ := List.mem_map.1 hpin.2
        have := hX.ok z hz
        simp only [Item.ok] at this
        omega
      clear hpin hlv
      subst hlp
      have hll : (l0 ++ [p]).length = l0.length + 1 := by simp
      rw [hll] at t3 hTl
      rw [ackStep_app] at hTs
      have hpc : (sps (l0 ++ [p]))[l0.length]? = some [iv p.1, iv p.2] := by simp [sps]
      have hvs : (sps (l0 ++ [p])).length = l0.length + 1 := by simp [sps]
      have wm : IntKind.i64.wrap (((l0.length + 1 : Nat) : Int) - 1) = (l0.length : Int) := by rw [w64 (by omega) (by omega)]; omega
      have wp : IntKind.i64.wrap (p.2 + 1) = p.2 + 1 := w64 (by omega) (by omega)
      have hm1 : l0.length < l0.length + 1 := Nat.lt_succ_self _
      have hgt : ((l0.length + 1 : Nat) : Int) > 0 := by omega
      by_cases e : p.2 + 1 = r.id
      · rw [if_pos e] at hTs
        have hse : (sps (l0 ++ [p])).set l0.length [iv p.1, iv r.id] = sps (l0 ++ [(p.1, r.id)]) := by simp [sps]
        have hbs := (heldS hb).1 (.cells (sps (l0 ++ [(p.1, r.id)])) 70)
        have wr : IntKind.i64.wrap r.id = r.id := by rw [← e]; exact wp
        repeat' (first | refine spD (fun _ => ?_) (fun _ => ?_) | refine spF (fun _ => ?_) (fun _ => ?_) | (apply gT; (exact rfl)) | (apply off; (exact rfl); (exact rfl)) | (apply condT; (exact rfl)) | (apply condF; (exact rfl)) | ((first | (apply stp0; (exact rfl); (exact rfl)) | (apply stpN0; (exact rfl)) | apply gT | apply condT | ((first | apply bodyQ_d0 | apply bodyQ_d1 | apply bodyQ_d2 | apply bodyQ_d3 | apply bodyQ_d4); (exact .inr rfl); (rw [Try.results42]))); (first | (focus (simp only [go_sem, ↓reduceIte, simprocAttr, t10, t9, t8, t3, t5, hx0, hb, hvs, hpc, wm, wr, hm1, hgt, e, hse, hsu, Nat.zero_add] <;> rfl)) | exact rfl); (first | (fail_if_success (show okD _ _ _ _ _ _ _ _ _)) | (first | exact okT | exact okN | exact okE rfl)); (first | (fail_if_success (show Bel _ _)) | (focus first | exact .val _ | (simp [oneOf, Bel_iff_tup, Bel_iff_agg, Bel_iff_rsl, Bel_iff_fn, Bel_iff_rptr, Bel_val]; done)))) | refine thenQ_n ?_ | refine thenQ_r ?_ | refine thenQ_e ?_ | refine blockQ_n ?_ | refine blockQ_r ?_ | refine blockQ_e ?_ | (apply blockQ_o; (exact rfl)) | refine Awp.seq ?_ | refine Awp.skip ?_ | refine Awp.block ?_ | refine reg (fun s => s == 5) ?_ | (apply drwE mixed (fun s => s == 5); (kernel_rfl)) | refine fin ?_ | refine Awp.ret ?_ | refine Awp.exit ?_ | ((first | (apply off; (exact rfl)) | apply condF); (first | (focus (simp only [go_sem, ↓reduceIte, simprocAttr, t10, t9, t8, t3, t5, hx0, hb, hvs, hpc, wm, wr, hm1, hgt, e, hse, hsu, Nat.zero_add] <;> rfl)) | exact rfl)))
        all_goals first | contradiction | (exfalso; omega) | skip
        refine ⟨i + 1, ⟨hlt, ?_, ?_, ?_, hGK.set hlo _, .msl b 0 (l0.length + 1), ?_, ?_⟩, Nat.sub_lt_sub_left hlt (Nat.lt_succ_self i)⟩
        · (first | (focus (simp only [go_sem, ↓reduceIte, simprocAttr, hsu]; first | done | rfl)) | rfl)
        · (first | (focus (simp only [go_sem, ↓reduceIte, simprocAttr, t9]; first | done | rfl)) | rfl)
        · (first | (focus (simp only [go_sem, ↓reduceIte, simprocAttr, t8]; first | done | rfl)) | rfl)
        · (first | (focus (simp only [go_sem, ↓reduceIte, simprocAttr, t3]; first | done | rfl)) | rfl)
        · rw [hTs]
          have := OutS.row (lo := H.length) (H := J.set b (.cells (sps (l0 ++ [(p.1, r.id)])) 70)) (b := b) (v := l0 ++ [(p.1, r.id)]) (by simp) hlo hbs
          simpa using this
      · rw [if_neg e] at hTs
        have hOS : OutS H.length J (.msl b 0 (l0.length + 1)) (l0 ++ [p]) := by
          have := OutS.row (lo := H.length) hne hlo hb
          rwa [hll] at this
        have hOR : OwnR H.length 70 2 16 J (.msl b 0 (l0.length + 1)) (sps (l0 ++ [p])) := ⟨hOS.own, sps_two _, by rw [hvs]; omega⟩
        repeat' (first | refine spD (fun _ => ?_) (fun _ => ?_) | refine spF (fun _ => ?_) (fun _ => ?_) | (apply gT; (exact rfl)) | (apply off; (exact rfl); (exact rfl)) | (apply condT; (exact rfl)) | (apply condF; (exact rfl)) | ((first | (apply stp0; (exact rfl); (exact rfl)) | (apply stpN0; (exact rfl)) | apply gT | apply condT | ((first | apply bodyQ_d0 | apply bodyQ_d1 | apply bodyQ_d2 | apply bodyQ_d3 | apply bodyQ_d4); (exact .inr rfl); (rw [Try.results42]))); (first | (focus (simp only [go_sem, ↓reduceIte, simprocAttr, t10, t9, t8, t3, t5, hx0, hb, hvs, hpc, wm, wp, hm1, hgt, e, hsu, Nat.zero_add] <;> rfl)) | exact rfl); (first | (fail_if_success (show okD _ _ _ _ _ _ _ _ _)) | (first | exact okT | exact okN | exact okE rfl)); (first | (fail_if_success (show Bel _ _)) | (focus first | exact .val _ | (simp [oneOf, Bel_iff_tup, Bel_iff_agg, Bel_iff_rsl, Bel_iff_fn, Bel_iff_rptr, Bel_val]; done)))) | (apply stpApp; (exact rfl); (first | exact hOR); (iterate 2 (first | (focus (simp only [go_sem, ↓reduceIte, simprocAttr, t10, t9, t8, t3, t5, hx0, hb, hvs, hpc, wm, wp, hm1, hgt, e, hsu, Nat.zero_add] <;> rfl)) | rfl)); (first | rfl | (simp [AV.isCell]; done)); (first | rfl | (simp; done)); (first | exact ap39 | exact ap44 | exact ap46 | exact ap61 | exact ap63 | exact ap75 | exact ap86 | exact ap101 | exact ap102); (first | exact okT | exact okN | exact okE rfl)) | refine thenQ_n ?_ | refine thenQ_r ?_ | refine thenQ_e ?_ | refine blockQ_n ?_ | refine blockQ_r ?_ | refine blockQ_e ?_ | (apply blockQ_o; (exact rfl)) | refine Awp.seq ?_ | refine Awp.skip ?_ | refine Awp.block ?_ | refine reg (fun s => s == 5) ?_ | (apply drwE mixed (fun s => s == 5); (kernel_rfl)) | refine fin ?_ | refine Awp.ret ?_ | refine Awp.exit ?_ | ((first | (apply off; (exact rfl)) | apply condF); (first | (focus (simp only [go_sem, ↓reduceIte, simprocAttr, t10, t9, t8, t3, t5, hx0, hb, hvs, hpc, wm, wp, hm1, hgt, e, hsu, Nat.zero_add] <;> rfl)) | exact rfl)))
        all_goals first | contradiction | (exfalso; omega) | skip
        refine ⟨i + 1, ⟨hlt, ?_, ?_, ?_, (hOS.own.grow (Nat.le_refl _) hGK).app _, .msl J.length 0 (l0.length + 1 + 1), ?_, ?_⟩, Nat.sub_lt_sub_left hlt (Nat.lt_succ_self i)⟩
        · (first | (focus (simp only [go_sem, ↓reduceIte, simprocAttr, hsu]; first | done | rfl)) | rfl)
        · (first | (focus (simp only [go_sem, ↓reduceIte, simprocAttr, t9]; first | done | rfl)) | rfl)
        · (first | (focus (simp only [go_sem, ↓reduceIte, simprocAttr, t8]; first | done | rfl)) | rfl)
        · (first | (focus (simp only [go_sem, ↓reduceIte, simprocAttr, hvs]; first | done | rfl)) | rfl)
        · rw [hTs]; exact hOS.next hGK.len (r.id, r.id) rfl (by rw [hll])
  · have hie : i = R.length := Nat.le_antisymm hi (Nat.not_lt.1 hlt)
    subst hie
    repeat' (first | refine spD (fun _ => ?_) (fun _ => ?_) | refine spF (fun _ => ?_) (fun _ => ?_) | (apply gT; (exact rfl)) | (apply off; (exact rfl); (exact rfl)) | (apply condT; (exact rfl)) | (apply condF; (exact rfl)) | ((first | (apply stp0; (exact rfl); (exact rfl)) | (apply stpN0; (exact rfl)) | apply gT | apply condT); (first | (focus (simp only [go_sem, ↓reduceIte, simprocAttr, Int.lt_irrefl, t10, t9, t3] <;> rfl)) | exact rfl); (first | (fail_if_success (show okD _ _ _ _ _ _ _ _ _)) | (first | exact okT | exact okN | exact okE rfl))) | refine thenQ_n ?_ | refine thenQ_r ?_ | refine thenQ_e ?_ | refine blockQ_n ?_ | refine blockQ_r ?_ | refine blockQ_e ?_ | (apply blockQ_o; (exact rfl)) | refine Awp.seq ?_ | refine Awp.skip ?_ | refine Awp.block ?_ | refine reg (fun s => s == 5) ?_ | (apply drwE mixed (fun s => s == 5); (kernel_rfl)) | refine fin ?_ | refine Awp.ret ?_ | refine Awp.exit ?_ | ((first | (apply off; (exact rfl)) | apply condF); (first | (focus (simp only [go_sem, ↓reduceIte, simprocAttr, Int.lt_irrefl, t10, t9, t3] <;> rfl)) | exact rfl)))
    all_goals first | contradiction | (exfalso; omega) | skip
    exact bodyQ_own (a := a) (t := 70) (.inr rfl) (by rw [Try.results42]; simp only [go_sem, ↓reduceIte, simprocAttr, t3]) hG hO.own (sps_plain _)

end Go.Proofs.Ytlhchnnfgppneaa.Ab
namespace Go.Proofs.Ytlhchnnfgppneaa.Ab
open Go Go.RowKit Go.Proofs
set_option linter.unusedSimpArgs false
set_option linter.unusedVariables false
attribute [local irreducible] Awp wpO thenQ blockQ bodyQ ACalls stepA

theorem ackT_gap {R : List Item} (hs : srtR R) (hok : ∀ r ∈ R, r.ok) : ∀ i, (ackT R i).Pairwise (fun a b => a.2 + 1 < b.1) ∧ ∀ p ∈ ackT R i, 0 ≤ p.1 ∧ p.1 ≤ p.2 ∧ ∃ j r, j < i ∧ R[j]? = some r ∧ r.id = p.2 := by
  intro i
  induction i with
  | zero => simp [ackT]
  | succ i ih =>
    obtain ⟨ih1, ih2⟩ := ih
    cases h : R[i]? with
    | some r =>
      have hr := hok r (List.mem_of_getElem? h)
      simp only [Item.ok] at hr
      have hlt : ∀ p ∈ ackT R i, p.2 < r.id := fun p hp => by
        obtain ⟨_, _, j, x, hj, hx, e⟩ := ih2 p hp
        have g1 := List.getElem?_eq_some_iff.1 hx
        have g2 := List.getElem?_eq_some_iff.1 h
        have := List.pairwise_iff_getElem.1 hs j i g1.1 g2.1 hj
        rw [g1.2, g2.2] at this
        omega
      have hnew : ∃ j x, j < i + 1 ∧ R[j]? = some x ∧ x.id = r.id := ⟨i, r, Nat.lt_succ_self i, h, rfl⟩
      have hup : ∀ p ∈ ackT R i, 0 ≤ p.1 ∧ p.1 ≤ p.2 ∧ ∃ j r, j < i + 1 ∧ R[j]? = some r ∧ r.id = p.2 := fun p hp => by
        obtain ⟨a, b, j, x, hj, hx, e⟩ := ih2 p hp
        exact ⟨a, b, j, x, by omega, hx, e⟩
      rw [ackT_succ h]
      rcases List.eq_nil_or_concat (ackT R i) with e | ⟨l0, q, e⟩
      · rw [e]
        refine ⟨by simp [ackStep], fun p hp => ?_⟩
        simp [ackStep] at hp
        subst hp
        exact ⟨by omega, Int.le_refl _, hnew⟩
      · rw [List.concat_eq_append] at e
        rw [e] at ih1 hlt hup ⊢
        obtain ⟨p1, p2, p3⟩ := List.pairwise_append.1 ih1
        have hq := hlt q (by simp)
        have hq2 := hup q (by simp)
        rw [ackStep_app]
        split
        · refine ⟨List.pairwise_append.2 ⟨p1, by simp, fun a ha b hb => ?_⟩, fun p hp => ?_⟩
          · simp at hb; subst hb
            exact p3 a ha q (by simp)
          · rcases List.mem_append.1 hp with hp | hp
            · exact hup p (by simp [hp])
            · simp at hp; subst hp
              exact ⟨hq2.1, by show q.1 ≤ r.id; omega, hnew⟩
        · rename_i hne
          refine ⟨List.pairwise_append.2 ⟨ih1, by simp, fun a ha b hb => ?_⟩, fun p hp => ?_⟩
          · simp at hb; subst hb
            show a.2 + 1 < r.id
            rcases List.mem_append.1 ha with ha | ha
            · have := p3 a ha q (by simp)
              omega
            · simp at ha; subst ha; omega
          · rcases List.mem_append.1 hp with hp | hp
            · exact hup p hp
            · simp at hp; subst hp
              exact ⟨by show 0 ≤ r.id; omega, Int.le_refl _, hnew⟩
    | none =>
      have hle : R.length ≤ i := List.getElem?_eq_none_iff.1 h
      have e : ackT R (i + 1) = ackT R i := by
        unfold ackT
        rw [List.take_of_length_le (by simp [idsR]; omega), List.take_of_length_le (by simp [idsR]; omega)]
      rw [e]
      exact ⟨ih1, fun p hp => by obtain ⟨a, b, j, x, hj, hx, e⟩ := ih2 p hp; exact ⟨a, b, j, x, by omega, hx, e⟩⟩

end Go.Proofs.Ytlhchnnfgppneaa.Ab
namespace Go.Proofs.Ytlhchnnfgppneaa.Ab
open Go Go.RowKit Go.Proofs
set_option linter.unusedSimpArgs false
set_option linter.unusedVariables false
attribute [local irreducible] Awp wpO thenQ blockQ bodyQ ACalls stepA

def wthB (x lo hi : Int) : Bool := decide (lo ≤ x) && decide (x ≤ hi)
set_option maxRecDepth 8000 in
theorem rwithin_ok (H : Hp) (x lo hi : Int) : CallsTo Try.prog 100 [iv x, iv lo, iv hi] H (bv (wthB x lo hi)) H := by
  unfold wthB
  by_cases h1 : lo ≤ x
  · by_cases h2 : x ≤ hi
    · rw [decide_eq_true h1, decide_eq_true h2]
      refine ACalls.of_body Try.func100 rfl (by kernel_rfl) (by rw [Try.ntmps100]; simp) ?_; rw [Try.ntmps100]
      repeat' (first | refine spD (fun _ => ?_) (fun _ => ?_) | refine spF (fun _ => ?_) (fun _ => ?_) | (apply gT; (exact rfl)) | (apply off; (exact rfl); (exact rfl)) | (apply condT; (exact rfl)) | (apply condF; (exact rfl)) | ((first | (apply stp0; (exact rfl); (exact rfl)) | (apply stpN0; (exact rfl)) | apply gT | apply condT | ((first | apply bodyQ_d0 | apply bodyQ_d1 | apply bodyQ_d2 | apply bodyQ_d3 | apply bodyQ_d4); (exact .inr rfl); (rw [Try.results100]))); (first | (focus (simp only [go_sem, ↓reduceIte, simprocAttr, h1, h2] <;> rfl)) | exact rfl); (first | (fail_if_success (show okD _ _ _ _ _ _ _ _ _)) | (first | exact okT | exact okN | exact okE rfl)); (first | (fail_if_success (show Bel _ _)) | (focus first | exact .val _ | (simp [oneOf, Bel_iff_tup, Bel_iff_agg, Bel_iff_rsl, Bel_iff_fn, Bel_iff_rptr, Bel_val]; done)))) | refine thenQ_n ?_ | refine thenQ_r ?_ | refine thenQ_e ?_ | refine blockQ_n ?_ | refine blockQ_r ?_ | refine blockQ_e ?_ | (apply blockQ_o; (exact rfl)) | refine Awp.seq ?_ | refine Awp.skip ?_ | refine Awp.block ?_ | refine reg (fun s => false) ?_ | (apply drwE mixed (fun s => false); (kernel_rfl)) | refine fin ?_ | refine Awp.ret ?_ | refine Awp.exit ?_ | ((first | (apply off; (exact rfl)) | apply condF); (first | (focus (simp only [go_sem, ↓reduceIte, simprocAttr, h1, h2] <;> rfl)) | exact rfl)))
      all_goals first | contradiction | (exfalso; omega) | rfl | skip
    · rw [decide_eq_true h1, decide_eq_false h2]
      refine ACalls.of_body Try.func100 rfl (by kernel_rfl) (by rw [Try.ntmps100]; simp) ?_; rw [Try.ntmps100]
      repeat' (first | refine spD (fun _ => ?_) (fun _ => ?_) | refine spF (fun _ => ?_) (fun _ => ?_) | (apply gT; (exact rfl)) | (apply off; (exact rfl); (exact rfl)) | (apply condT; (exact rfl)) | (apply condF; (exact rfl)) | ((first | (apply stp0; (exact rfl); (exact rfl)) | (apply stpN0; (exact rfl)) | apply gT | apply condT | ((first | apply bodyQ_d0 | apply bodyQ_d1 | apply bodyQ_d2 | apply bodyQ_d3 | apply bodyQ_d4); (exact .inr rfl); (rw [Try.results100]))); (first | (focus (simp only [go_sem, ↓reduceIte, simprocAttr, h1, h2] <;> rfl)) | exact rfl); (first | (fail_if_success (show okD _ _ _ _ _ _ _ _ _)) | (first | exact okT | exact okN | exact okE rfl)); (first | (fail_if_success (show Bel _ _)) | (focus first | exact .val _ | (simp [oneOf, Bel_iff_tup, Bel_iff_agg, Bel_iff_rsl, Bel_iff_fn, Bel_iff_rptr, Bel_val]; done)))) | refine thenQ_n ?_ | refine thenQ_r ?_ | refine thenQ_e ?_ | refine blockQ_n ?_ | refine blockQ_r ?_ | refine blockQ_e ?_ | (apply blockQ_o; (exact rfl)) | refine Awp.seq ?_ | refine Awp.skip ?_ | refine Awp.block ?_ | refine reg (fun s => false) ?_ | (apply drwE mixed (fun s => false); (kernel_rfl)) | refine fin ?_ | refine Awp.ret ?_ | refine Awp.exit ?_ | ((first | (apply off; (exact rfl)) | apply condF); (first | (focus (simp only [go_sem, ↓reduceIte, simprocAttr, h1, h2] <;> rfl)) | exact rfl)))
      all_goals first | contradiction | (exfalso; omega) | rfl | skip
  · rw [decide_eq_false h1, Bool.false_and]
    refine ACalls.of_body Try.func100 rfl (by kernel_rfl) (by rw [Try.ntmps100]; simp) ?_; rw [Try.ntmps100]
    repeat' (first | refine spD (fun _ => ?_) (fun _ => ?_) | refine spF (fun _ => ?_) (fun _ => ?_) | (apply gT; (exact rfl)) | (apply off; (exact rfl); (exact rfl)) | (apply condT; (exact rfl)) | (apply condF; (exact rfl)) | ((first | (apply stp0; (exact rfl); (exact rfl)) | (apply stpN0; (exact rfl)) | apply gT | apply condT | ((first | apply bodyQ_d0 | apply bodyQ_d1 | apply bodyQ_d2 | apply bodyQ_d3 | apply bodyQ_d4); (exact .inr rfl); (rw [Try.results100]))); (first | (focus (simp only [go_sem, ↓reduceIte, simprocAttr, h1] <;> rfl)) | exact rfl); (first | (fail_if_success (show okD _ _ _ _ _ _ _ _ _)) | (first | exact okT | exact okN | exact okE rfl)); (first | (fail_if_success (show Bel _ _)) | (focus first | exact .val _ | (simp [oneOf, Bel_iff_tup, Bel_iff_agg, Bel_iff_rsl, Bel_iff_fn, Bel_iff_rptr, Bel_val]; done)))) | refine thenQ_n ?_ | refine thenQ_r ?_ | refine thenQ_e ?_ | refine blockQ_n ?_ | refine blockQ_r ?_ | refine blockQ_e ?_ | (apply blockQ_o; (exact rfl)) | refine Awp.seq ?_ | refine Awp.skip ?_ | refine Awp.block ?_ | refine reg (fun s => false) ?_ | (apply drwE mixed (fun s => false); (kernel_rfl)) | refine fin ?_ | refine Awp.ret ?_ | refine Awp.exit ?_ | ((first | (apply off; (exact rfl)) | apply condF); (first | (focus (simp only [go_sem, ↓reduceIte, simprocAttr, h1] <;> rfl)) | exact rfl)))
    all_goals first | contradiction | (exfalso; omega) | rfl | skip

def isInB (s : List (Int × Int)) (x : Int) : Bool := s.any fun p => wthB x p.1 p.2
theorem sps_at {s : List (Int × Int)} {i : Nat} {p : Int × Int} (h : s[i]? = some p) : (sps s)[i]? = some [iv p.1, iv p.2] := nthMap (fun p : Int × Int => [iv p.1, iv p.2]) h
theorem any_dropS {l : List (Int × Int)} {i : Nat} {a : Int × Int} {f : Int × Int → Bool} (h : l[i]? = some a) : (l.drop i).any f = (f a || (l.drop (i + 1)).any f) := by
  have hlt := (List.getElem?_eq_some_iff.1 h).1
  rw [List.drop_eq_getElem_cons hlt, (List.getElem?_eq_some_iff.1 h).2]
  rfl

set_option maxRecDepth 8000 in
theorem risIn_ok (H : Hp) (s : List (Int × Int)) (ex : Bool) (hm : s.length ≤ maxLen) (x : Int) : CallsTo Try.prog 69 [.rsl (sps s) ex, iv x] H (bv (isInB s x)) H := by
  have hvl := sps_len s
  unfold isInB
  refine ACalls.of_body Try.func69 rfl (by kernel_rfl) (by rw [Try.ntmps69]; simp) ?_; rw [Try.ntmps69]
  repeat' (first | refine spD (fun _ => ?_) (fun _ => ?_) | refine spF (fun _ => ?_) (fun _ => ?_) | (apply gT; (exact rfl)) | (apply off; (exact rfl); (exact rfl)) | (apply condT; (exact rfl)) | (apply condF; (exact rfl)) | ((first | (apply stp0; (exact rfl); (exact rfl)) | (apply stpN0; (exact rfl)) | apply gT | apply condT | ((first | apply bodyQ_d0 | apply bodyQ_d1 | apply bodyQ_d2 | apply bodyQ_d3 | apply bodyQ_d4); (exact .inr rfl); (rw [Try.results69]))); (first | (focus (simp only [go_sem, ↓reduceIte, simprocAttr] <;> rfl)) | exact rfl); (first | (fail_if_success (show okD _ _ _ _ _ _ _ _ _)) | (first | exact okT | exact okN | exact okE rfl)); (first | (fail_if_success (show Bel _ _)) | (focus first | exact .val _ | (simp [oneOf, Bel_iff_tup, Bel_iff_agg, Bel_iff_rsl, Bel_iff_fn, Bel_iff_rptr, Bel_val]; done)))) | refine thenQ_n ?_ | refine thenQ_r ?_ | refine thenQ_e ?_ | refine blockQ_n ?_ | refine blockQ_r ?_ | refine blockQ_e ?_ | (apply blockQ_o; (exact rfl)) | refine Awp.seq ?_ | refine Awp.skip ?_ | refine Awp.block ?_ | refine reg (fun s => false) ?_ | (apply drwE mixed (fun s => false); (kernel_rfl)) | refine fin ?_ | refine Awp.ret ?_ | refine Awp.exit ?_ | ((first | (apply off; (exact rfl)) | apply condF); (first | (focus (simp only [go_sem, ↓reduceIte, simprocAttr] <;> rfl)) | exact rfl)))
  all_goals first | contradiction | (exfalso; omega) | skip
  refine Awp.loop (ι := Nat) (fun i T' K => i ≤ s.length ∧ T' 5 = iv i ∧ T' 0 = .rsl (sps s) ex ∧ T' 1 = iv x ∧ K = H ∧ (s.any fun p => wthB x p.1 p.2) = ((s.drop i).any fun p => wthB x p.1 p.2)) (fun i => s.length - i) 0 ?_ ?_
  · refine ⟨Nat.zero_le _, ?_, ?_, ?_, rfl, by rw [List.drop_zero]⟩
    · (first | (focus (simp only [go_sem, ↓reduceIte, simprocAttr]; first | done | rfl)) | rfl)
    · (first | (focus (simp only [go_sem, ↓reduceIte, simprocAttr]; first | done | rfl)) | rfl)
    · (first | (focus (simp only [go_sem, ↓reduceIte, simprocAttr]; first | done | rfl)) | rfl)
  rintro i T K ⟨hi, t5, t0, t1, hK, hf⟩
  rw [hK]
  by_cases hlt : i < s.length
  · obtain ⟨p, hp⟩ := nth hlt
    have hc := sps_at hp
    have hsu := wsucc hlt hm
    have hw := rwithin_ok H x p.1 p.2
    rw [any_dropS hp] at hf
    cases e : wthB x p.1 p.2 with
    | true =>
      rw [e, Bool.true_or] at hf
      rw [e] at hw
      rw [hf]
      repeat' (first | refine spD (fun _ => ?_) (fun _ => ?_) | refine spF (fun _ => ?_) (fun _ => ?_) | (apply gT; (exact rfl)) | (apply off; (exact rfl); (exact rfl)) | (apply condT; (exact rfl)) | (apply condF; (exact rfl)) | ((first | (apply stp0; (exact rfl); (exact rfl)) | (apply stpN0; (exact rfl)) | apply gT | apply condT | ((first | apply bodyQ_d0 | apply bodyQ_d1 | apply bodyQ_d2 | apply bodyQ_d3 | apply bodyQ_d4); (exact .inr rfl); (rw [Try.results69]))); (first | (focus (simp only [go_sem, ↓reduceIte, simprocAttr, Int.ofNat_lt.2 hlt, t5, t0, t1, hvl, hc] <;> rfl)) | exact rfl); (first | (fail_if_success (show okD _ _ _ _ _ _ _ _ _)) | (first | exact okT | exact okN | exact okE rfl)); (first | (fail_if_success (show Bel _ _)) | (focus first | exact .val _ | (simp [oneOf, Bel_iff_tup, Bel_iff_agg, Bel_iff_rsl, Bel_iff_fn, Bel_iff_rptr, Bel_val]; done)))) | (apply calTo0; (exact rfl); (iterate 2 (simp only [go_sem, ↓reduceIte, simprocAttr, Int.ofNat_lt.2 hlt, t5, t0, t1, hvl, hc]; rfl)); (first | exact hw); (first | exact okT | exact okN | exact okE rfl)) | refine thenQ_n ?_ | refine thenQ_r ?_ | refine thenQ_e ?_ | refine blockQ_n ?_ | refine blockQ_r ?_ | refine blockQ_e ?_ | (apply blockQ_o; (exact rfl)) | refine Awp.seq ?_ | refine Awp.skip ?_ | refine Awp.block ?_ | refine reg (fun s => false) ?_ | (apply drwE mixed (fun s => false); (kernel_rfl)) | refine fin ?_ | refine Awp.ret ?_ | refine Awp.exit ?_ | ((first | (apply off; (exact rfl)) | apply condF); (first | (focus (simp only [go_sem, ↓reduceIte, simprocAttr, Int.ofNat_lt.2 hlt, t5, t0, t1, hvl, hc] <;> rfl)) | exact rfl)))
      all_goals first | contradiction | (exfalso; omega) | rfl | skip
    | false =>
      rw [e, Bool.false_or] at hf
      rw [e] at hw
      repeat' (first | refine spD (fun _ => ?_) (fun _ => ?_) | refine spF (fun _ => ?_) (fun _ => ?_) | (apply gT; (exact rfl)) | (apply off; (exact rfl); (exact rfl)) | (apply condT; (exact rfl)) | (apply condF; (exact rfl)) | ((first | (apply stp0; (exact rfl); (exact rfl)) | (apply stpN0; (exact rfl)) | apply gT | apply condT | ((first | apply bodyQ_d0 | apply bodyQ_d1 | apply bodyQ_d2 | apply bodyQ_d3 | apply bodyQ_d4); (exact .inr rfl); (rw [Try.results69]))); (first | (focus (simp only [go_sem, ↓reduceIte, simprocAttr, Int.ofNat_lt.2 hlt, t5, t0, t1, hvl, hc, hsu] <;> rfl)) | exact rfl); (first | (fail_if_success (show okD _ _ _ _ _ _ _ _ _)) | (first | exact okT | exact okN | exact okE rfl)); (first | (fail_if_success (show Bel _ _)) | (focus first | exact .val _ | (simp [oneOf, Bel_iff_tup, Bel_iff_agg, Bel_iff_rsl, Bel_iff_fn, Bel_iff_rptr, Bel_val]; done)))) | (apply calTo0; (exact rfl); (iterate 2 (simp only [go_sem, ↓reduceIte, simprocAttr, Int.ofNat_lt.2 hlt, t5, t0, t1, hvl, hc, hsu]; rfl)); (first | exact hw); (first | exact okT | exact okN | exact okE rfl)) | refine thenQ_n ?_ | refine thenQ_r ?_ | refine thenQ_e ?_ | refine blockQ_n ?_ | refine blockQ_r ?_ | refine blockQ_e ?_ | (apply blockQ_o; (exact rfl)) | refine Awp.seq ?_ | refine Awp.skip ?_ | refine Awp.block ?_ | refine reg (fun s => false) ?_ | (apply drwE mixed (fun s => false); (kernel_rfl)) | refine fin ?_ | refine Awp.ret ?_ | refine Awp.exit ?_ | ((first | (apply off; (exact rfl)) | apply condF); (first | (focus (simp only [go_sem, ↓reduceIte, simprocAttr, Int.ofNat_lt.2 hlt, t5, t0, t1, hvl, hc, hsu] <;> rfl)) | exact rfl)))
      all_goals first | contradiction | (exfalso; omega) | skip
      refine ⟨i + 1, ⟨hlt, ?_, ?_, ?_, rfl, hf⟩, Nat.sub_lt_sub_left hlt (Nat.lt_succ_self i)⟩
      · (first | (focus (simp only [go_sem, ↓reduceIte, simprocAttr, hsu]; first | done | rfl)) | rfl)
      · (first | (focus (simp only [go_sem, ↓reduceIte, simprocAttr, t0]; first | done | rfl)) | rfl)
      · (first | (focus (simp only [go_sem, ↓reduceIte, simprocAttr, t1]; first | done | rfl)) | rfl)
  · have hie : i = s.length := Nat.le_antisymm hi (Nat.not_lt.1 hlt)
    subst hie
    rw [List.drop_length] at hf
    rw [hf]
    repeat' (first | refine spD (fun _ => ?_) (fun _ => ?_) | refine spF (fun _ => ?_) (fun _ => ?_) | (apply gT; (exact rfl)) | (apply off; (exact rfl); (exact rfl)) | (apply condT; (exact rfl)) | (apply condF; (exact rfl)) | ((first | (apply stp0; (exact rfl); (exact rfl)) | (apply stpN0; (exact rfl)) | apply gT | apply condT | ((first | apply bodyQ_d0 | apply bodyQ_d1 | apply bodyQ_d2 | apply bodyQ_d3 | apply bodyQ_d4); (exact .inr rfl); (rw [Try.results69]))); (first | (focus (simp only [go_sem, ↓reduceIte, simprocAttr, Int.lt_irrefl, t5, t0, hvl] <;> rfl)) | exact rfl); (first | (fail_if_success (show okD _ _ _ _ _ _ _ _ _)) | (first | exact okT | exact okN | exact okE rfl)); (first | (fail_if_success (show Bel _ _)) | (focus first | exact .val _ | (simp [oneOf, Bel_iff_tup, Bel_iff_agg, Bel_iff_rsl, Bel_iff_fn, Bel_iff_rptr, Bel_val]; done)))) | refine thenQ_n ?_ | refine thenQ_r ?_ | refine thenQ_e ?_ | refine blockQ_n ?_ | refine blockQ_r ?_ | refine blockQ_e ?_ | (apply blockQ_o; (exact rfl)) | refine Awp.seq ?_ | refine Awp.skip ?_ | refine Awp.block ?_ | refine reg (fun s => false) ?_ | (apply drwE mixed (fun s => false); (kernel_rfl)) | refine fin ?_ | refine Awp.ret ?_ | refine Awp.exit ?_ | ((first | (apply off; (exact rfl)) | apply condF); (first | (focus (simp only [go_sem, ↓reduceIte, simprocAttr, Int.lt_irrefl, t5, t0, hvl] <;> rfl)) | exact rfl)))
    all_goals first | contradiction | (exfalso; omega) | rfl | skip

def vldB (p : Int × Int) : Bool := decide (p.1 ≤ p.2) && wthB p.1 (-1073741824) 1073741824 && wthB p.2 (-1073741824) 1073741824
set_option maxRecDepth 8000 in
theorem rvalid_ok (H : Hp) (p : Int × Int) : CallsTo Try.prog 99 [.agg [iv p.1, iv p.2]] H (bv (vldB p)) H := by
  unfold vldB
  have h1 := fun H => rwithin_ok H p.1 (-1073741824) 1073741824
  have h2 := fun H => rwithin_ok H p.2 (-1073741824) 1073741824
  by_cases e0 : p.1 ≤ p.2
  · rw [decide_eq_true e0, Bool.true_and]
    cases e1 : wthB p.1 (-1073741824) 1073741824 with
    | true =>
      rw [e1] at h1
      rw [Bool.true_and]
      refine ACalls.of_body Try.func99 rfl (by kernel_rfl) (by rw [Try.ntmps99]; simp) ?_; rw [Try.ntmps99]
      repeat' (first | refine spD (fun _ => ?_) (fun _ => ?_) | refine spF (fun _ => ?_) (fun _ => ?_) | (apply gT; (exact rfl)) | (apply off; (exact rfl); (exact rfl)) | (apply condT; (exact rfl)) | (apply condF; (exact rfl)) | ((first | (apply stp0; (exact rfl); (exact rfl)) | (apply stpN0; (exact rfl)) | apply gT | apply condT | ((first | apply bodyQ_d0 | apply bodyQ_d1 | apply bodyQ_d2 | apply bodyQ_d3 | apply bodyQ_d4); (exact .inr rfl); (rw [Try.results99]))); (first | (focus (simp only [go_sem, ↓reduceIte, simprocAttr, e0] <;> rfl)) | exact rfl); (first | (fail_if_success (show okD _ _ _ _ _ _ _ _ _)) | (first | exact okT | exact okN | exact okE rfl)); (first | (fail_if_success (show Bel _ _)) | (focus first | exact .val _ | (simp [oneOf, Bel_iff_tup, Bel_iff_agg, Bel_iff_rsl, Bel_iff_fn, Bel_iff_rptr, Bel_val]; done)))) | (apply calTo0; (exact rfl); (iterate 2 (simp only [go_sem, ↓reduceIte, simprocAttr, e0]; rfl)); (first | exact h1 _ | exact h2 _); (first | exact okT | exact okN | exact okE rfl)) | refine thenQ_n ?_ | refine thenQ_r ?_ | refine thenQ_e ?_ | refine blockQ_n ?_ | refine blockQ_r ?_ | refine blockQ_e ?_ | (apply blockQ_o; (exact rfl)) | refine Awp.seq ?_ | refine Awp.skip ?_ | refine Awp.block ?_ | refine reg (fun s => false) ?_ | (apply drwE mixed (fun s => false); (kernel_rfl)) | refine fin ?_ | refine Awp.ret ?_ | refine Awp.exit ?_ | ((first | (apply off; (exact rfl)) | apply condF); (first | (focus (simp only [go_sem, ↓reduceIte, simprocAttr, e0] <;> rfl)) | exact rfl)))
      all_goals first | contradiction | (exfalso; omega) | rfl | skip
    | false =>
      rw [e1] at h1
      rw [Bool.false_and]
      refine ACalls.of_body Try.func99 rfl (by kernel_rfl) (by rw [Try.ntmps99]; simp) ?_; rw [Try.ntmps99]
      repeat' (first | refine spD (fun _ => ?_) (fun _ => ?_) | refine spF (fun _ => ?_) (fun _ => ?_) | (apply gT; (exact rfl)) | (apply off; (exact rfl); (exact rfl)) | (apply condT; (exact rfl)) | (apply condF; (exact rfl)) | ((first | (apply stp0; (exact rfl); (exact rfl)) | (apply stpN0; (exact rfl)) | apply gT | apply condT | ((first | apply bodyQ_d0 | apply bodyQ_d1 | apply bodyQ_d2 | apply bodyQ_d3 | apply bodyQ_d4); (exact .inr rfl); (rw [Try.results99]))); (first | (focus (simp only [go_sem, ↓reduceIte, simprocAttr, e0] <;> rfl)) | exact rfl); (first | (fail_if_success (show okD _ _ _ _ _ _ _ _ _)) | (first | exact okT | exact okN | exact okE rfl)); (first | (fail_if_success (show Bel _ _)) | (focus first | exact .val _ | (simp [oneOf, Bel_iff_tup, Bel_iff_agg, Bel_iff_rsl, Bel_iff_fn, Bel_iff_rptr, Bel_val]; done)))) | (apply calTo0; (exact rfl); (iterate 2 (simp only [go_sem, ↓reduceIte, simprocAttr, e0]; rfl)); (first | exact h1 _ | exact h2 _); (first | exact okT | exact okN | exact okE rfl)) | refine thenQ_n ?_ | refine thenQ_r ?_ | refine thenQ_e ?_ | refine blockQ_n ?_ | refine blockQ_r ?_ | refine blockQ_e ?_ | (apply blockQ_o; (exact rfl)) | refine Awp.seq ?_ | refine Awp.skip ?_ | refine Awp.block ?_ | refine reg (fun s => false) ?_ | (apply drwE mixed (fun s => false); (kernel_rfl)) | refine fin ?_ | refine Awp.ret ?_ | refine Awp.exit ?_ | ((first | (apply off; (exact rfl)) | apply condF); (first | (focus (simp only [go_sem, ↓reduceIte, simprocAttr, e0] <;> rfl)) | exact rfl)))
      all_goals first | contradiction | (exfalso; omega) | rfl | skip
  · rw [decide_eq_false e0, Bool.false_and, Bool.false_and]
    refine ACalls.of_body Try.func99 rfl (by kernel_rfl) (by rw [Try.ntmps99]; simp) ?_; rw [Try.ntmps99]
    repeat' (first | refine spD (fun _ => ?_) (fun _ => ?_) | refine spF (fun _ => ?_) (fun _ => ?_) | (apply gT; (exact rfl)) | (apply off; (exact rfl); (exact rfl)) | (apply condT; (exact rfl)) | (apply condF; (exact rfl)) | ((first | (apply stp0; (exact rfl); (exact rfl)) | (apply stpN0; (exact rfl)) | apply gT | apply condT | ((first | apply bodyQ_d0 | apply bodyQ_d1 | apply bodyQ_d2 | apply bodyQ_d3 | apply bodyQ_d4); (exact .inr rfl); (rw [Try.results99]))); (first | (focus (simp only [go_sem, ↓reduceIte, simprocAttr, e0] <;> rfl)) | exact rfl); (first | (fail_if_success (show okD _ _ _ _ _ _ _ _ _)) | (first | exact okT | exact okN | exact okE rfl)); (first | (fail_if_success (show Bel _ _)) | (focus first | exact .val _ | (simp [oneOf, Bel_iff_tup, Bel_iff_agg, Bel_iff_rsl, Bel_iff_fn, Bel_iff_rptr, Bel_val]; done)))) | (apply calTo0; (exact rfl); (iterate 2 (simp only [go_sem, ↓reduceIte, simprocAttr, e0]; rfl)); (first | exact h1 _ | exact h2 _); (first | exact okT | exact okN | exact okE rfl)) | refine thenQ_n ?_ | refine thenQ_r ?_ | refine thenQ_e ?_ | refine blockQ_n ?_ | refine blockQ_r ?_ | refine blockQ_e ?_ | (apply blockQ_o; (exact rfl)) | refine Awp.seq ?_ | refine Awp.skip ?_ | refine Awp.block ?_ | refine reg (fun s => false) ?_ | (apply drwE mixed (fun s => false); (kernel_rfl)) | refine fin ?_ | refine Awp.ret ?_ | refine Awp.exit ?_ | ((first | (apply off; (exact rfl)) | apply condF); (first | (focus (simp only [go_sem, ↓reduceIte, simprocAttr, e0] <;> rfl)) | exact rfl)))
    all_goals first | contradiction | (exfalso; omega) | rfl | skip

end Go.Proofs.Ytlhchnnfgppneaa.Ab
namespace Go.Proofs.Ytlhchnnfgppneaa.Ab
open Go Go.RowKit Go.Proofs
set_option linter.unusedSimpArgs false
set_option linter.unusedVariables false
attribute [local irreducible] Awp wpO thenQ blockQ bodyQ ACalls stepA

def gapB : Option (Int × Int) → Int × Int → Bool
  | none, _ => true
  | some q, p => decide (q.2 + 2 ≤ p.1)
def setB : Option (Int × Int) → List (Int × Int) → Bool
  | _, [] => true
  | pr, p :: l => vldB p && gapB pr p && setB (some p) l
def prvS (s : List (Int × Int)) : Nat → Option (Int × Int)
  | 0 => none
  | j + 1 => s[j]?
/-- what CheckSet says -/
def setC (s : List (Int × Int)) : Int := if (s.length : Int) > 256 then 6 else if setB none s = true then 0 else 2
theorem setB_drop {s : List (Int × Int)} {i : Nat} {p : Int × Int} (h : s[i]? = some p) : setB (prvS s i) (s.drop i) = (vldB p && gapB (prvS s i) p && setB (prvS s (i + 1)) (s.drop (i + 1))) := by
  have hlt := (List.getElem?_eq_some_iff.1 h).1
  rw [List.drop_eq_getElem_cons hlt, (List.getElem?_eq_some_iff.1 h).2]
  show (vldB p && gapB (prvS s i) p && setB (some p) _) = (vldB p && gapB (prvS s i) p && setB s[i]? _)
  rw [h]
theorem vldB_in {p : Int × Int} (h : vldB p = true) : -1073741824 ≤ p.2 ∧ p.2 ≤ 1073741824 := by
  unfold vldB wthB at h
  simp only [Bool.and_eq_true, decide_eq_true_eq] at h
  exact h.2

set_option maxRecDepth 8000 in
set_option maxHeartbeats 2000000 in
theorem rcheckSet_ok (H : Hp) (s : List (Int × Int)) (ex : Bool) : CallsTo Try.prog 68 [.rsl (sps s) ex] H (iv (setC s)) H := by
  have hvl := sps_len s
  unfold setC
  by_cases h6 : (s.length : Int) > 256
  · rw [if_pos h6]
    refine ACalls.of_body Try.func68 rfl (by kernel_rfl) (by rw [Try.ntmps68]; simp) ?_; rw [Try.ntmps68]
    repeat' (first | refine spD (fun _ => ?_) (fun _ => ?_) | refine spF (fun _ => ?_) (fun _ => ?_) | (apply gT; (exact rfl)) | (apply off; (exact rfl); (exact rfl)) | (apply condT; (exact rfl)) | (apply condF; (exact rfl)) | ((first | (apply stp0; (exact rfl); (exact rfl)) | (apply stpN0; (exact rfl)) | apply gT | apply condT | ((first | apply bodyQ_d0 | apply bodyQ_d1 | apply bodyQ_d2 | apply bodyQ_d3 | apply bodyQ_d4); (exact .inr rfl); (rw [Try.results68]))); (first | (focus (simp only [go_sem, ↓reduceIte, simprocAttr, hvl, h6] <;> rfl)) | exact rfl); (first | (fail_if_success (show okD _ _ _ _ _ _ _ _ _)) | (first | exact okT | exact okN | exact okE rfl)); (first | (fail_if_success (show Bel _ _)) | (focus first | exact .val _ | (simp [oneOf, Bel_iff_tup, Bel_iff_agg, Bel_iff_rsl, Bel_iff_fn, Bel_iff_rptr, Bel_val]; done)))) | refine thenQ_n ?_ | refine thenQ_r ?_ | refine thenQ_e ?_ | refine blockQ_n ?_ | refine blockQ_r ?_ | refine blockQ_e ?_ | (apply blockQ_o; (exact rfl)) | refine Awp.seq ?_ | refine Awp.skip ?_ | refine Awp.block ?_ | refine reg (fun s => false) ?_ | (apply drwE mixed (fun s => false); (kernel_rfl)) | refine fin ?_ | refine Awp.ret ?_ | refine Awp.exit ?_ | ((first | (apply off; (exact rfl)) | apply condF); (first | (focus (simp only [go_sem, ↓reduceIte, simprocAttr, hvl, h6] <;> rfl)) | exact rfl)))
    all_goals first | contradiction | (exfalso; omega) | rfl | skip
  · rw [if_neg h6]
    have hm : s.length ≤ maxLen := by simp only [maxLen]; omega
    refine ACalls.of_body Try.func68 rfl (by kernel_rfl) (by rw [Try.ntmps68]; simp) ?_; rw [Try.ntmps68]
    repeat' (first | refine spD (fun _ => ?_) (fun _ => ?_) | refine spF (fun _ => ?_) (fun _ => ?_) | (apply gT; (exact rfl)) | (apply off; (exact rfl); (exact rfl)) | (apply condT; (exact rfl)) | (apply condF; (exact rfl)) | ((first | (apply stp0; (exact rfl); (exact rfl)) | (apply stpN0; (exact rfl)) | apply gT | apply condT | ((first | apply bodyQ_d0 | apply bodyQ_d1 | apply bodyQ_d2 | apply bodyQ_d3 | apply bodyQ_d4); (exact .inr rfl); (rw [Try.results68]))); (first | (focus (simp only [go_sem, ↓reduceIte, simprocAttr, hvl, h6] <;> rfl)) | exact rfl); (first | (fail_if_success (show okD _ _ _ _ _ _ _ _ _)) | (first | exact okT | exact okN | exact okE rfl)); (first | (fail_if_success (show Bel _ _)) | (focus first | exact .val _ | (simp [oneOf, Bel_iff_tup, Bel_iff_agg, Bel_iff_rsl, Bel_iff_fn, Bel_iff_rptr, Bel_val]; done)))) | refine thenQ_n ?_ | refine thenQ_r ?_ | refine thenQ_e ?_ | refine blockQ_n ?_ | refine blockQ_r ?_ | refine blockQ_e ?_ | (apply blockQ_o; (exact rfl)) | refine Awp.seq ?_ | refine Awp.skip ?_ | refine Awp.block ?_ | refine reg (fun s => false) ?_ | (apply drwE mixed (fun s => false); (kernel_rfl)) | refine fin ?_ | refine Awp.ret ?_ | refine Awp.exit ?_ | ((first | (apply off; (exact rfl)) | apply condF); (first | (focus (simp only [go_sem, ↓reduceIte, simprocAttr, hvl, h6] <;> rfl)) | exact rfl)))
    all_goals first | contradiction | (exfalso; omega) | skip
    refine Awp.loop (ι := Nat) (fun i T' K => i ≤ s.length ∧ T' 3 = iv i ∧ T' 0 = .rsl (sps s) ex ∧ K = H ∧ setB none s = setB (prvS s i) (s.drop i) ∧ ∀ p, prvS s i = some p → vldB p = true) (fun i => s.length - i) 0 ?_ ?_
    · refine ⟨Nat.zero_le _, ?_, ?_, rfl, by rw [List.drop_zero]; rfl, fun p e => by cases e⟩
      · (first | (focus (simp only [go_sem, ↓reduceIte, simprocAttr]; first | done | rfl)) | rfl)
      · (first | (focus (simp only [go_sem, ↓reduceIte, simprocAttr]; first | done | rfl)) | rfl)
    rintro i T K ⟨hi, t3, t0, hK, hf, hpv⟩
    rw [hK]
    by_cases hlt : i < s.length
    · obtain ⟨p, hp⟩ := nth hlt
      have hc := sps_at hp
      have hsu := wsucc hlt hm
      have hw := rvalid_ok H p
      have hlt' := Int.ofNat_lt.2 hlt
      rw [setB_drop hp] at hf
      cases e : vldB p with
      | false =>
        rw [e] at hw hf
        rw [Bool.false_and, Bool.false_and] at hf
        rw [hf, if_neg (by simp)]
        repeat' (first | refine spD (fun _ => ?_) (fun _ => ?_) | refine spF (fun _ => ?_) (fun _ => ?_) | (apply gT; (exact rfl)) | (apply off; (exact rfl); (exact rfl)) | (apply condT; (exact rfl)) | (apply condF; (exact rfl)) | ((first | (apply stp0; (exact rfl); (exact rfl)) | (apply stpN0; (exact rfl)) | apply gT | apply condT | ((first | apply bodyQ_d0 | apply bodyQ_d1 | apply bodyQ_d2 | apply bodyQ_d3 | apply bodyQ_d4); (exact .inr rfl); (rw [Try.results68]))); (first | (focus (simp only [go_sem, ↓reduceIte, simprocAttr, hlt', t3, t0, hvl, hc] <;> rfl)) | exact rfl); (first | (fail_if_success (show okD _ _ _ _ _ _ _ _ _)) | (first | exact okT | exact okN | exact okE rfl)); (first | (fail_if_success (show Bel _ _)) | (focus first | exact .val _ | (simp [oneOf, Bel_iff_tup, Bel_iff_agg, Bel_iff_rsl, Bel_iff_fn, Bel_iff_rptr, Bel_val]; done)))) | (apply calTo0; (exact rfl); (iterate 2 (simp only [go_sem, ↓reduceIte, simprocAttr, hlt', t3, t0, hvl, hc]; rfl)); (first | exact hw); (first | exact okT | exact okN | exact okE rfl)) | refine thenQ_n ?_ | refine thenQ_r ?_ | refine thenQ_e ?_ | refine blockQ_n ?_ | refine blockQ_r ?_ | refine blockQ_e ?_ | (apply blockQ_o; (exact rfl)) | refine Awp.seq ?_ | refine Awp.skip ?_ | refine Awp.block ?_ | refine reg (fun s => false) ?_ | (apply drwE mixed (fun s => false); (kernel_rfl)) | refine fin ?_ | refine Awp.ret ?_ | refine Awp.exit ?_ | ((first | (apply off; (exact rfl)) | apply condF); (first | (focus (simp only [go_sem, ↓reduceIte, simprocAttr, hlt', t3, t0, hvl, hc] <;> rfl)) | exact rfl)))
        all_goals first | contradiction | (exfalso; omega) | rfl | skip
      | true =>
        rw [e] at hw hf
        rw [Bool.true_and] at hf
        cases i with
        | zero =>
          have hz : ¬ (((0 : Nat) : Int) > 0) := by omega
          repeat' (first | refine spD (fun _ => ?_) (fun _ => ?_) | refine spF (fun _ => ?_) (fun _ => ?_) | (apply gT; (exact rfl)) | (apply off; (exact rfl); (exact rfl)) | (apply condT; (exact rfl)) | (apply condF; (exact rfl)) | ((first | (apply stp0; (exact rfl); (exact rfl)) | (apply stpN0; (exact rfl)) | apply gT | apply condT | ((first | apply bodyQ_d0 | apply bodyQ_d1 | apply bodyQ_d2 | apply bodyQ_d3 | apply bodyQ_d4); (exact .inr rfl); (rw [Try.results68]))); (first | (focus (simp only [go_sem, ↓reduceIte, simprocAttr, hlt', t3, t0, hvl, hc, hz, hsu] <;> rfl)) | exact rfl); (first | (fail_if_success (show okD _ _ _ _ _ _ _ _ _)) | (first | exact okT | exact okN | exact okE rfl)); (first | (fail_if_success (show Bel _ _)) | (focus first | exact .val _ | (simp [oneOf, Bel_iff_tup, Bel_iff_agg, Bel_iff_rsl, Bel_iff_fn, Bel_iff_rptr, Bel_val]; done)))) | (apply calTo0; (exact rfl); (iterate 2 (simp only [go_sem, ↓reduceIte, simprocAttr, hlt', t3, t0, hvl, hc, hz, hsu]; rfl)); (first | exact hw); (first | exact okT | exact okN | exact okE rfl)) | refine thenQ_n ?_ | refine thenQ_r ?_ | refine thenQ_e ?_ | refine blockQ_n ?_ | refine blockQ_r ?_ | refine blockQ_e ?_ | (apply blockQ_o; (exact rfl)) | refine Awp.seq ?_ | refine Awp.skip ?_ | refine Awp.block ?_ | refine reg (fun s => false) ?_ | (apply drwE mixed (fun s => false); (kernel_rfl)) | refine fin ?_ | refine Awp.ret ?_ | refine Awp.exit ?_ | ((first | (apply off; (exact rfl)) | apply condF); (first | (focus (simp only [go_sem, ↓reduceIte, simprocAttr, hlt', t3, t0, hvl, hc, hz, hsu] <;> rfl)) | exact rfl)))
          all_goals first | contradiction | (exfalso; omega) | skip
          refine ⟨1, ⟨hlt, ?_, ?_, rfl, hf, fun y hy => by rw [show prvS s 1 = s[0]? from rfl, hp] at hy; cases hy; exact e⟩, by omega⟩
          · (first | (focus (simp only [go_sem, ↓reduceIte, simprocAttr, hsu]; first | done | rfl)) | rfl)
          · (first | (focus (simp only [go_sem, ↓reduceIte, simprocAttr, t0]; first | done | rfl)) | rfl)
        | succ j =>
          obtain ⟨y, hy⟩ := nth (l := s) (i := j) (by omega)
          have hvy := vldB_in (hpv y hy)
          have hc2 := sps_at hy
          have hz : ((j + 1 : Nat) : Int) > 0 := by omega
          have wj : IntKind.i64.wrap (((j + 1 : Nat) : Int) - 1) = (j : Int) := by rw [show ((j + 1 : Nat) : Int) - 1 = (j : Int) by omega]; exact w64 (by omega) (by omega)
          have wy : IntKind.i64.wrap (y.2 + 2) = y.2 + 2 := w64 (by omega) (by omega)
          have hg : gapB (prvS s (j + 1)) p = decide (y.2 + 2 ≤ p.1) := by show gapB s[j]? p = _; rw [hy]; rfl
          rw [hg] at hf
          have hjl : j < s.length := by omega
          by_cases hgp : p.1 < y.2 + 2
          · rw [decide_eq_false (Int.not_le.2 hgp), Bool.false_and] at hf
            rw [hf, if_neg (by simp)]
            repeat' (first | refine spD (fun _ => ?_) (fun _ => ?_) | refine spF (fun _ => ?_) (fun _ => ?_) | (apply gT; (exact rfl)) | (apply off; (exact rfl); (exact rfl)) | (apply condT; (exact rfl)) | (apply condF; (exact rfl)) | ((first | (apply stp0; (exact rfl); (exact rfl)) | (apply stpN0; (exact rfl)) | apply gT | apply condT | ((first | apply bodyQ_d0 | apply bodyQ_d1 | apply bodyQ_d2 | apply bodyQ_d3 | apply bodyQ_d4); (exact .inr rfl); (rw [Try.results68]))); (first | (focus (simp only [go_sem, ↓reduceIte, simprocAttr, hlt', t3, t0, hvl, hc, hc2, hz, wj, wy, hgp, hjl] <;> rfl)) | exact rfl); (first | (fail_if_success (show okD _ _ _ _ _ _ _ _ _)) | (first | exact okT | exact okN | exact okE rfl)); (first | (fail_if_success (show Bel _ _)) | (focus first | exact .val _ | (simp [oneOf, Bel_iff_tup, Bel_iff_agg, Bel_iff_rsl, Bel_iff_fn, Bel_iff_rptr, Bel_val]; done)))) | (apply calTo0; (exact rfl); (iterate 2 (simp only [go_sem, ↓reduceIte, simprocAttr, hlt', t3, t0, hvl, hc, hc2, hz, wj, wy, hgp, hjl]; rfl)); (first | exact hw); (first | exact okT | exact okN | exact okE rfl)) | refine thenQ_n ?_ | refine thenQ_r ?_ | refine thenQ_e ?_ | refine blockQ_n ?_ | refine blockQ_r ?_ | refine blockQ_e ?_ | (apply blockQ_o; (exact rfl)) | refine Awp.seq ?_ | refine Awp.skip ?_ | refine Awp.block ?_ | refine reg (fun s => false) ?_ | (apply drwE mixed (fun s => false); (kernel_rfl)) | refine fin ?_ | refine Awp.ret ?_ | refine Awp.exit ?_ | ((first | (apply off; (exact rfl)) | apply condF); (first | (focus (simp only [go_sem, ↓reduceIte, simprocAttr, hlt', t3, t0, hvl, hc, hc2, hz, wj, wy, hgp, hjl] <;> rfl)) | exact rfl)))
            all_goals first | contradiction | (exfalso; omega) | rfl | skip
          · rw [decide_eq_true (Int.not_lt.1 hgp), Bool.true_and] at hf
            repeat' (first | refine spD (fun _ => ?_) (fun _ => ?_) | refine spF (fun _ => ?_) (fun _ => ?_) | (apply gT; (exact rfl)) | (apply off; (exact rfl); (exact rfl)) | (apply condT; (exact rfl)) | (apply condF; (exact rfl)) | ((first | (apply stp0; (exact rfl); (exact rfl)) | (apply stpN0; (exact rfl)) | apply gT | apply condT | ((first | apply bodyQ_d0 | apply bodyQ_d1 | apply bodyQ_d2 | apply bodyQ_d3 | apply bodyQ_d4); (exact .inr rfl); (rw [Try.results68]))); (first | (focus (simp only [go_sem, ↓reduceIte, simprocAttr, hlt', t3, t0, hvl, hc, hc2, hz, wj, wy, hgp, hjl, hsu] <;> rfl)) | exact rfl); (first | (fail_if_success (show okD _ _ _ _ _ _ _ _ _)) | (first | exact okT | exact okN | exact okE rfl)); (first | (fail_if_success (show Bel _ _)) | (focus first | exact .val _ | (simp [oneOf, Bel_iff_tup, Bel_iff_agg, Bel_iff_rsl, Bel_iff_fn, Bel_iff_rptr, Bel_val]; done)))) | (apply calTo0; (exact rfl); (iterate 2 (simp only [go_sem, ↓reduceIte, simprocAttr, hlt', t3, t0, hvl, hc, hc2, hz, wj, wy, hgp, hjl, hsu]; rfl)); (first | exact hw); (first | exact okT | exact okN | exact okE rfl)) | refine thenQ_n ?_ | refine thenQ_r ?_ | refine thenQ_e ?_ | refine blockQ_n ?_ | refine blockQ_r ?_ | refine blockQ_e ?_ | (apply blockQ_o; (exact rfl)) | refine Awp.seq ?_ | refine Awp.skip ?_ | refine Awp.block ?_ | refine reg (fun s => false) ?_ | (apply drwE mixed (fun s => false); (kernel_rfl)) | refine fin ?_ | refine Awp.ret ?_ | refine Awp.exit ?_ | ((first | (apply off; (exact rfl)) | apply condF); (first | (focus (simp only [go_sem, ↓reduceIte, simprocAttr, hlt', t3, t0, hvl, hc, hc2, hz, wj, wy, hgp, hjl, hsu] <;> rfl)) | exact rfl)))
            all_goals first | contradiction | (exfalso; omega) | skip
            refine ⟨j + 2, ⟨hlt, ?_, ?_, rfl, hf, fun z hz => by rw [show prvS s (j + 2) = s[j + 1]? from rfl, hp] at hz; cases hz; exact e⟩, by omega⟩
            · (first | (focus (simp only [go_sem, ↓reduceIte, simprocAttr, hsu]; first | done | rfl)) | rfl)
            · (first | (focus (simp only [go_sem, ↓reduceIte, simprocAttr, t0]; first | done | rfl)) | rfl)
    · have hie : i = s.length := Nat.le_antisymm hi (Nat.not_lt.1 hlt)
      subst hie
      rw [List.drop_length] at hf
      rw [hf, if_pos (by cases s <;> rfl)]
      repeat' (first | refine spD (fun _ => ?_) (fun _ => ?_) | refine spF (fun _ => ?_) (fun _ => ?_) | (apply gT; (exact rfl)) | (apply off; (exact rfl); (exact rfl)) | (apply condT; (exact rfl)) | (apply condF; (exact rfl)) | ((first | (apply stp0; (exact rfl); (exact rfl)) | (apply stpN0; (exact rfl)) | apply gT | apply condT | ((first | apply bodyQ_d0 | apply bodyQ_d1 | apply bodyQ_d2 | apply bodyQ_d3 | apply bodyQ_d4); (exact .inr rfl); (rw [Try.results68]))); (first | (focus (simp only [go_sem, ↓reduceIte, simprocAttr, Int.lt_irrefl, t3, t0, hvl] <;> rfl)) | exact rfl); (first | (fail_if_success (show okD _ _ _ _ _ _ _ _ _)) | (first | exact okT | exact okN | exact okE rfl)); (first | (fail_if_success (show Bel _ _)) | (focus first | exact .val _ | (simp [oneOf, Bel_iff_tup, Bel_iff_agg, Bel_iff_rsl, Bel_iff_fn, Bel_iff_rptr, Bel_val]; done)))) | refine thenQ_n ?_ | refine thenQ_r ?_ | refine thenQ_e ?_ | refine blockQ_n ?_ | refine blockQ_r ?_ | refine blockQ_e ?_ | (apply blockQ_o; (exact rfl)) | refine Awp.seq ?_ | refine Awp.skip ?_ | refine Awp.block ?_ | refine reg (fun s => false) ?_ | (apply drwE mixed (fun s => false); (kernel_rfl)) | refine fin ?_ | refine Awp.ret ?_ | refine Awp.exit ?_ | ((first | (apply off; (exact rfl)) | apply condF); (first | (focus (simp only [go_sem, ↓reduceIte, simprocAttr, Int.lt_irrefl, t3, t0, hvl] <;> rfl)) | exact rfl)))
      all_goals first | contradiction | (exfalso; omega) | rfl | skip

end Go.Proofs.Ytlhchnnfgppneaa.Ab
namespace Go.Proofs.Ytlhchnnfgppneaa.Ab
open Go Go.RowKit Go.Proofs
set_option linter.unusedSimpArgs false
set_option linter.unusedVariables false
attribute [local irreducible] Awp wpO thenQ blockQ bodyQ ACalls stepA

theorem vldB_iff {p : Int × Int} : vldB p = true ↔ ¬ p.1 > p.2 ∧ ¬ p.1 < -1073741824 ∧ ¬ p.2 > 1073741824 := by
  unfold vldB wthB
  simp only [Bool.and_eq_true, decide_eq_true_eq]
  omega

set_option maxRecDepth 8000 in
theorem bchk_ok (H : Hp) (p : Int × Int) : CallsTo Try.prog 89 [.rsl [[iv p.1, iv p.2]] true] H (iv (if vldB p = true then 0 else 2)) H := by
  refine ACalls.of_body Try.func89 rfl (by kernel_rfl) (by rw [Try.ntmps89]; simp) ?_; rw [Try.ntmps89]
  repeat' (first | refine spD (fun _ => ?_) (fun _ => ?_) | refine spF (fun _ => ?_) (fun _ => ?_) | (apply gT; (exact rfl)) | (apply off; (exact rfl); (exact rfl)) | (apply condT; (exact rfl)) | (apply condF; (exact rfl)) | ((first | (apply stp0; (exact rfl); (exact rfl)) | (apply stpN0; (exact rfl)) | apply gT | apply condT | ((first | apply bodyQ_d0 | apply bodyQ_d1 | apply bodyQ_d2 | apply bodyQ_d3 | apply bodyQ_d4); (exact .inr rfl); (rw [Try.results89]))); (first | (focus (simp only [go_sem, ↓reduceIte, simprocAttr] <;> rfl)) | exact rfl); (first | (fail_if_success (show okD _ _ _ _ _ _ _ _ _)) | (first | exact okT | exact okN | exact okE rfl)); (first | (fail_if_success (show Bel _ _)) | (focus first | exact .val _ | (simp [oneOf, Bel_iff_tup, Bel_iff_agg, Bel_iff_rsl, Bel_iff_fn, Bel_iff_rptr, Bel_val]; done)))) | refine thenQ_n ?_ | refine thenQ_r ?_ | refine thenQ_e ?_ | refine blockQ_n ?_ | refine blockQ_r ?_ | refine blockQ_e ?_ | (apply blockQ_o; (exact rfl)) | refine Awp.seq ?_ | refine Awp.skip ?_ | refine Awp.block ?_ | refine reg (fun s => s == 4) ?_ | (apply drwE mixed (fun s => s == 4); (kernel_rfl)) | refine fin ?_ | refine Awp.ret ?_ | refine Awp.exit ?_ | ((first | (apply off; (exact rfl)) | apply condF); (first | (focus (simp only [go_sem, ↓reduceIte, simprocAttr] <;> rfl)) | exact rfl)))
  all_goals first | contradiction | (exfalso; omega) | skip
  refine Awp.loop (ι := Nat) (fun i T' K => i ≤ 1 ∧ T' 6 = iv 1 ∧ T' 7 = iv i ∧ T' 5 = .rsl [[iv p.1, iv p.2]] true ∧ Grow H K ∧ (i = 1 → vldB p = true)) (fun i => 1 - i) 0 ?_ ?_
  · refine ⟨Nat.zero_le _, ?_, ?_, ?_, Grow.refl _, fun h => by omega⟩
    · (first | (focus (simp only [go_sem, ↓reduceIte, simprocAttr]; first | done | rfl)) | rfl)
    · (first | (focus (simp only [go_sem, ↓reduceIte, simprocAttr]; first | done | rfl)) | rfl)
    · (first | (focus (simp only [go_sem, ↓reduceIte, simprocAttr]; first | done | rfl)) | rfl)
  rintro i T K ⟨hi, t6, t7, t5, hG, hv⟩
  cases i with
  | zero =>
    have h01 : ((0 : Nat) : Int) < 1 := by omega
    have hsu : IntKind.i64.wrap (((0 : Nat) : Int) + 1) = ((1 : Nat) : Int) := by kernel_rfl
    by_cases e1 : p.1 > p.2
    · rw [if_neg (fun h => (vldB_iff.1 h).1 e1)]
      repeat' (first | refine spD (fun _ => ?_) (fun _ => ?_) | refine spF (fun _ => ?_) (fun _ => ?_) | (apply gT; (exact rfl)) | (apply off; (exact rfl); (exact rfl)) | (apply condT; (exact rfl)) | (apply condF; (exact rfl)) | ((first | (apply stp0; (exact rfl); (exact rfl)) | (apply stpN0; (exact rfl)) | apply gT | apply condT); (first | (focus (simp only [go_sem, ↓reduceIte, simprocAttr, h01, t6, t7, t5, e1] <;> rfl)) | exact rfl); (first | (fail_if_success (show okD _ _ _ _ _ _ _ _ _)) | (first | exact okT | exact okN | exact okE rfl))) | refine thenQ_n ?_ | refine thenQ_r ?_ | refine thenQ_e ?_ | refine blockQ_n ?_ | refine blockQ_r ?_ | refine blockQ_e ?_ | (apply blockQ_o; (exact rfl)) | refine Awp.seq ?_ | refine Awp.skip ?_ | refine Awp.block ?_ | refine reg (fun s => s == 4) ?_ | (apply drwE mixed (fun s => s == 4); (kernel_rfl)) | refine fin ?_ | refine Awp.ret ?_ | refine Awp.exit ?_ | ((first | (apply off; (exact rfl)) | apply condF); (first | (focus (simp only [go_sem, ↓reduceIte, simprocAttr, h01, t6, t7, t5, e1] <;> rfl)) | exact rfl)))
      all_goals first | contradiction | (exfalso; omega) | skip
      exact bodyQ_sameG (vs := [iv 2]) (.inr rfl) (by rw [Try.results89]; simp only [go_sem, ↓reduceIte, simprocAttr]) (hG.app _) (.val _) rfl
    · by_cases e2 : p.1 < -1073741824
      · rw [if_neg (fun h => (vldB_iff.1 h).2.1 e2)]
        repeat' (first | refine spD (fun _ => ?_) (fun _ => ?_) | refine spF (fun _ => ?_) (fun _ => ?_) | (apply gT; (exact rfl)) | (apply off; (exact rfl); (exact rfl)) | (apply condT; (exact rfl)) | (apply condF; (exact rfl)) | ((first | (apply stp0; (exact rfl); (exact rfl)) | (apply stpN0; (exact rfl)) | apply gT | apply condT); (first | (focus (simp only [go_sem, ↓reduceIte, simprocAttr, h01, t6, t7, t5, e1, e2] <;> rfl)) | exact rfl); (first | (fail_if_success (show okD _ _ _ _ _ _ _ _ _)) | (first | exact okT | exact okN | exact okE rfl))) | refine thenQ_n ?_ | refine thenQ_r ?_ | refine thenQ_e ?_ | refine blockQ_n ?_ | refine blockQ_r ?_ | refine blockQ_e ?_ | (apply blockQ_o; (exact rfl)) | refine Awp.seq ?_ | refine Awp.skip ?_ | refine Awp.block ?_ | refine reg (fun s => s == 4) ?_ | (apply drwE mixed (fun s => s == 4); (kernel_rfl)) | refine fin ?_ | refine Awp.ret ?_ | refine Awp.exit ?_ | ((first | (apply off; (exact rfl)) | apply condF); (first | (focus (simp only [go_sem, ↓reduceIte, simprocAttr, h01, t6, t7, t5, e1, e2] <;> rfl)) | exact rfl)))
        all_goals first | contradiction | (exfalso; omega) | skip
        exact bodyQ_sameG (vs := [iv 2]) (.inr rfl) (by rw [Try.results89]; simp only [go_sem, ↓reduceIte, simprocAttr]) (hG.app _) (.val _) rfl
      · by_cases e3 : p.2 > 1073741824
        · rw [if_neg (fun h => (vldB_iff.1 h).2.2 e3)]
          repeat' (first | refine spD (fun _ => ?_) (fun _ => ?_) | refine spF (fun _ => ?_) (fun _ => ?_) | (apply gT; (exact rfl)) | (apply off; (exact rfl); (exact rfl)) | (apply condT; (exact rfl)) | (apply condF; (exact rfl)) | ((first | (apply stp0; (exact rfl); (exact rfl)) | (apply stpN0; (exact rfl)) | apply gT | apply condT); (first | (focus (simp only [go_sem, ↓reduceIte, simprocAttr, h01, t6, t7, t5, e1, e2, e3] <;> rfl)) | exact rfl); (first | (fail_if_success (show okD _ _ _ _ _ _ _ _ _)) | (first | exact okT | exact okN | exact okE rfl))) | refine thenQ_n ?_ | refine thenQ_r ?_ | refine thenQ_e ?_ | refine blockQ_n ?_ | refine blockQ_r ?_ | refine blockQ_e ?_ | (apply blockQ_o; (exact rfl)) | refine Awp.seq ?_ | refine Awp.skip ?_ | refine Awp.block ?_ | refine reg (fun s => s == 4) ?_ | (apply drwE mixed (fun s => s == 4); (kernel_rfl)) | refine fin ?_ | refine Awp.ret ?_ | refine Awp.exit ?_ | ((first | (apply off; (exact rfl)) | apply condF); (first | (focus (simp only [go_sem, ↓reduceIte, simprocAttr, h01, t6, t7, t5, e1, e2, e3] <;> rfl)) | exact rfl)))
          all_goals first | contradiction | (exfalso; omega) | skip
          exact bodyQ_sameG (vs := [iv 2]) (.inr rfl) (by rw [Try.results89]; simp only [go_sem, ↓reduceIte, simprocAttr]) (hG.app _) (.val _) rfl
        · have hv := vldB_iff.2 ⟨e1, e2, e3⟩
          repeat' (first | refine spD (fun _ => ?_) (fun _ => ?_) | refine spF (fun _ => ?_) (fun _ => ?_) | (apply gT; (exact rfl)) | (apply off; (exact rfl); (exact rfl)) | (apply condT; (exact rfl)) | (apply condF; (exact rfl)) | ((first | (apply stp0; (exact rfl); (exact rfl)) | (apply stpN0; (exact rfl)) | apply gT | apply condT | ((first | apply bodyQ_d0 | apply bodyQ_d1 | apply bodyQ_d2 | apply bodyQ_d3 | apply bodyQ_d4); (exact .inr rfl); (rw [Try.results89]))); (first | (focus (simp only [go_sem, ↓reduceIte, simprocAttr, h01, t6, t7, t5, e1, e2, e3, hsu] <;> rfl)) | exact rfl); (first | (fail_if_success (show okD _ _ _ _ _ _ _ _ _)) | (first | exact okT | exact okN | exact okE rfl)); (first | (fail_if_success (show Bel _ _)) | (focus first | exact .val _ | (simp [oneOf, Bel_iff_tup, Bel_iff_agg, Bel_iff_rsl, Bel_iff_fn, Bel_iff_rptr, Bel_val]; done)))) | refine thenQ_n ?_ | refine thenQ_r ?_ | refine thenQ_e ?_ | refine blockQ_n ?_ | refine blockQ_r ?_ | refine blockQ_e ?_ | (apply blockQ_o; (exact rfl)) | refine Awp.seq ?_ | refine Awp.skip ?_ | refine Awp.block ?_ | refine reg (fun s => s == 4) ?_ | (apply drwE mixed (fun s => s == 4); (kernel_rfl)) | refine fin ?_ | refine Awp.ret ?_ | refine Awp.exit ?_ | ((first | (apply off; (exact rfl)) | apply condF); (first | (focus (simp only [go_sem, ↓reduceIte, simprocAttr, h01, t6, t7, t5, e1, e2, e3, hsu] <;> rfl)) | exact rfl)))
          all_goals first | contradiction | (exfalso; omega) | skip
          refine ⟨1, ⟨Nat.le_refl _, ?_, ?_, ?_, hG.app _, fun _ => hv⟩, by omega⟩
          · (first | (focus (simp only [go_sem, ↓reduceIte, simprocAttr, t6]; first | done | rfl)) | rfl)
          · (first | (focus (simp only [go_sem, ↓reduceIte, simprocAttr, hsu]; first | done | rfl)) | rfl)
          · (first | (focus (simp only [go_sem, ↓reduceIte, simprocAttr, t5]; first | done | rfl)) | rfl)
  | succ j =>
    have hj : j = 0 := by omega
    subst hj
    have h11 : ¬ ((0 + 1 : Nat) : Int) < 1 := by omega
    rw [if_pos (hv rfl)]
    repeat' (first | refine spD (fun _ => ?_) (fun _ => ?_) | refine spF (fun _ => ?_) (fun _ => ?_) | (apply gT; (exact rfl)) | (apply off; (exact rfl); (exact rfl)) | (apply condT; (exact rfl)) | (apply condF; (exact rfl)) | ((first | (apply stp0; (exact rfl); (exact rfl)) | (apply stpN0; (exact rfl)) | apply gT | apply condT); (first | (focus (simp only [go_sem, ↓reduceIte, simprocAttr, h11, t6, t7, t5] <;> rfl)) | exact rfl); (first | (fail_if_success (show okD _ _ _ _ _ _ _ _ _)) | (first | exact okT | exact okN | exact okE rfl))) | refine thenQ_n ?_ | refine thenQ_r ?_ | refine thenQ_e ?_ | refine blockQ_n ?_ | refine blockQ_r ?_ | refine blockQ_e ?_ | (apply blockQ_o; (exact rfl)) | refine Awp.seq ?_ | refine Awp.skip ?_ | refine Awp.block ?_ | refine reg (fun s => s == 4) ?_ | (apply drwE mixed (fun s => s == 4); (kernel_rfl)) | refine fin ?_ | refine Awp.ret ?_ | refine Awp.exit ?_ | ((first | (apply off; (exact rfl)) | apply condF); (first | (focus (simp only [go_sem, ↓reduceIte, simprocAttr, h11, t6, t7, t5] <;> rfl)) | exact rfl)))
    all_goals first | contradiction | (exfalso; omega) | skip
    exact bodyQ_sameG (vs := [iv 0]) (.inr rfl) (by rw [Try.results89]; simp only [go_sem, ↓reduceIte, simprocAttr]) hG (.val _) rfl

end Go.Proofs.Ytlhchnnfgppneaa.Ab
