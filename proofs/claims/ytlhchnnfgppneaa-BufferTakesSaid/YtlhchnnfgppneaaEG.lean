/- Inboxes: the reference's Take, whole. -/
import Derived.Test.YtlhchnnfgppneaaEF
import Derived.Test.YtlhchnnfgppneaaQ3
namespace Go.Proofs.Ytlhchnnfgppneaa.Ab
open Go Go.RowKit Go.Proofs
set_option linter.unusedSimpArgs false
set_option linter.unusedVariables false
attribute [local irreducible] Awp wpO thenQ blockQ bodyQ ACalls stepA

set_option maxRecDepth 8000 in
set_option maxHeartbeats 8000000 in
theorem rtake0 {H : Hp} {q : Nat} {a : AV} {R : List Item} (hQ : RqX H q a R) (hl : R.length ≤ 256) (r : Item) {T : Env} (t0 : T 0 = .mptr q 0 0) (t3 : T 3 = .rptr r.cs 0) (t6 : T 6 = iv 0) :
    Awp Try.prog 79 none (hdC (tl (tl (tl (Try.f41.body.getD .skip))))) T H (fun e T' K => K = H ∧ e = .normal ∧ T' 0 = .mptr q 0 0 ∧ T' 3 = .rptr r.cs 0 ∧ T' 6 = iv (placeR R r.id : Nat)) := by
  have hb := hQ.hb
  have hpN := placeR_le r.id R
  have hp1 := fun i x => placeR_lt (x := r.id) (R := R) (i := i) (r := x)
  have hp2 := fun x => placeR_at (x := r.id) (R := R) (r := x)
  obtain ⟨pl, hpl⟩ : ∃ pl, pl = placeR R r.id := ⟨_, rfl⟩
  rw [← hpl] at hpN hp2 ⊢
  simp only [← hpl] at hp1
  unfold Try.f41
  simp only [tl, hdC, inC, Option.getD_some, Item.cs] at t3 ⊢
  cases hQ.row with
  | nil =>
    have h0 : pl = 0 := by simpa using hpN
    subst h0
    refine Awp.block ?_
    refine Awp.loop (ι := Nat) (fun _ T' K => T' 6 = iv 0 ∧ T' 0 = .mptr q 0 0 ∧ T' 3 = .rptr [iv r.id, iv r.cls, iv r.made, iv r.size, iv r.pk] 0 ∧ K = H) (fun m => m) 0 ⟨t6, t0, t3, rfl⟩ ?_
    clear t0 t3 t6 T
    rintro m T K ⟨t6, t0, t3, hK⟩
    rw [hK]
    repeat' (first | refine spD (fun _ => ?_) (fun _ => ?_) | refine spF (fun _ => ?_) (fun _ => ?_) | (apply gT; (exact rfl)) | (apply off; (exact rfl); (exact rfl)) | (apply condT; (exact rfl)) | (apply condF; (exact rfl)) | ((first | (apply stp0; (exact rfl); (exact rfl)) | (apply stpN0; (exact rfl)) | apply gT | apply condT | ((first | apply bodyQ_d0 | apply bodyQ_d1 | apply bodyQ_d2 | apply bodyQ_d3 | apply bodyQ_d4); (exact .inr rfl); (rw [Try.results41]))); (first | (focus (simp only [go_sem, ↓reduceIte, simprocAttr, t0, t3, t6, hb] <;> rfl)) | exact rfl); (first | (fail_if_success (show okD _ _ _ _ _ _ _ _ _)) | (first | exact okT | exact okN | exact okE rfl)); (first | (fail_if_success (show Bel _ _)) | (focus first | exact .val _ | (simp [oneOf, Bel_iff_tup, Bel_iff_agg, Bel_iff_rsl, Bel_iff_fn, Bel_iff_rptr, Bel_val]; done)))) | refine thenQ_n ?_ | refine thenQ_r ?_ | refine thenQ_e ?_ | refine blockQ_n ?_ | refine blockQ_r ?_ | refine blockQ_e ?_ | (apply blockQ_o; (exact rfl)) | refine Awp.seq ?_ | refine Awp.skip ?_ | refine Awp.block ?_ | refine reg (fun s => false) ?_ | (apply drwE mixed (fun s => false); (kernel_rfl)) | refine fin ?_ | refine Awp.ret ?_ | refine Awp.exit ?_ | ((first | (apply off; (exact rfl)) | apply condF); (first | (focus (simp only [go_sem, ↓reduceIte, simprocAttr, t0, t3, t6, hb] <;> rfl)) | exact rfl)))
    all_goals first | contradiction | (exfalso; omega) | skip
    exact ⟨rfl, rfl, by (first | (focus (simp only [go_sem, ↓reduceIte, simprocAttr, t0]; first | done | rfl)) | rfl), by (first | (focus (simp only [go_sem, ↓reduceIte, simprocAttr, t3]; first | done | rfl)) | rfl), by (first | (focus (simp only [go_sem, ↓reduceIte, simprocAttr, t6]; first | done | rfl)) | rfl)⟩
  | row hbv hn =>
    rename_i o n v
    have hln : (v.take n).length = n := by rw [List.length_take, Nat.min_eq_left hn]
    have hlm : n ≤ maxLen := by rw [hln] at hl; simp only [maxLen]; omega
    have hvl := its_len v
    rw [hln] at hpN
    refine Awp.block ?_
    refine Awp.loop (ι := Nat) (fun i T' K => i ≤ pl ∧ T' 6 = iv i ∧ T' 0 = .mptr q 0 0 ∧ T' 3 = .rptr [iv r.id, iv r.cls, iv r.made, iv r.size, iv r.pk] 0 ∧ K = H) (fun i => pl - i) 0 ⟨Nat.zero_le _, t6, t0, t3, rfl⟩ ?_
    clear t0 t3 t6 T
    rintro i T K ⟨hi, t6, t0, t3, hK⟩
    rw [hK]
    by_cases hin : i < n
    · obtain ⟨h, hh⟩ := nth (l := v.take n) (i := i) (by omega)
      have hvi : (its v)[i]? = some [iv h.id, iv h.cls, iv h.made, iv h.size, iv h.pk] := by
        have h2 := hh
        rw [List.getElem?_take, if_pos hin] at h2
        exact its_at h2
      have hsu := wsucc hin hlm
      by_cases hlt : i < pl
      · have hc : h.id < r.id := hp1 i h hh hlt
        repeat' (first | refine spD (fun _ => ?_) (fun _ => ?_) | refine spF (fun _ => ?_) (fun _ => ?_) | (apply gT; (exact rfl)) | (apply off; (exact rfl); (exact rfl)) | (apply condT; (exact rfl)) | (apply condF; (exact rfl)) | ((first | (apply stp0; (exact rfl); (exact rfl)) | (apply stpN0; (exact rfl)) | apply gT | apply condT | ((first | apply bodyQ_d0 | apply bodyQ_d1 | apply bodyQ_d2 | apply bodyQ_d3 | apply bodyQ_d4); (exact .inr rfl); (rw [Try.results41]))); (first | (focus (simp only [go_sem, ↓reduceIte, simprocAttr, Int.ofNat_lt.2 hin, t0, t3, t6, hb, hbv, hvl, hvi, hin, Nat.zero_add, hsu, hc] <;> rfl)) | exact rfl); (first | (fail_if_success (show okD _ _ _ _ _ _ _ _ _)) | (first | exact okT | exact okN | exact okE rfl)); (first | (fail_if_success (show Bel _ _)) | (focus first | exact .val _ | (simp [oneOf, Bel_iff_tup, Bel_iff_agg, Bel_iff_rsl, Bel_iff_fn, Bel_iff_rptr, Bel_val]; done)))) | refine thenQ_n ?_ | refine thenQ_r ?_ | refine thenQ_e ?_ | refine blockQ_n ?_ | refine blockQ_r ?_ | refine blockQ_e ?_ | (apply blockQ_o; (exact rfl)) | refine Awp.seq ?_ | refine Awp.skip ?_ | refine Awp.block ?_ | refine reg (fun s => false) ?_ | (apply drwE mixed (fun s => false); (kernel_rfl)) | refine fin ?_ | refine Awp.ret ?_ | refine Awp.exit ?_ | ((first | (apply off; (exact rfl)) | apply condF); (first | (focus (simp only [go_sem, ↓reduceIte, simprocAttr, Int.ofNat_lt.2 hin, t0, t3, t6, hb, hbv, hvl, hvi, hin, Nat.zero_add, hsu, hc] <;> rfl)) | exact rfl)))
        all_goals first | contradiction | (exfalso; omega) | skip
        refine ⟨i + 1, ⟨hlt, ?_, ?_, ?_, rfl⟩, Nat.sub_lt_sub_left hlt (Nat.lt_succ_self i)⟩
        · (first | (focus (simp only [go_sem, ↓reduceIte, simprocAttr, hsu]; first | done | rfl)) | rfl)
        · (first | (focus (simp only [go_sem, ↓reduceIte, simprocAttr, t0]; first | done | rfl)) | rfl)
        · (first | (focus (simp only [go_sem, ↓reduceIte, simprocAttr, t3]; first | done | rfl)) | rfl)
      · have hie : i = pl := Nat.le_antisymm hi (Nat.not_lt.1 hlt)
        subst hie
        have hc : ¬ h.id < r.id := by have := hp2 h hh; omega
        repeat' (first | refine spD (fun _ => ?_) (fun _ => ?_) | refine spF (fun _ => ?_) (fun _ => ?_) | (apply gT; (exact rfl)) | (apply off; (exact rfl); (exact rfl)) | (apply condT; (exact rfl)) | (apply condF; (exact rfl)) | ((first | (apply stp0; (exact rfl); (exact rfl)) | (apply stpN0; (exact rfl)) | apply gT | apply condT | ((first | apply bodyQ_d0 | apply bodyQ_d1 | apply bodyQ_d2 | apply bodyQ_d3 | apply bodyQ_d4); (exact .inr rfl); (rw [Try.results41]))); (first | (focus (simp only [go_sem, ↓reduceIte, simprocAttr, Int.ofNat_lt.2 hin, t0, t3, t6, hb, hbv, hvl, hvi, hin, Nat.zero_add, hc] <;> rfl)) | exact rfl); (first | (fail_if_success (show okD _ _ _ _ _ _ _ _ _)) | (first | exact okT | exact okN | exact okE rfl)); (first | (fail_if_success (show Bel _ _)) | (focus first | exact .val _ | (simp [oneOf, Bel_iff_tup, Bel_iff_agg, Bel_iff_rsl, Bel_iff_fn, Bel_iff_rptr, Bel_val]; done)))) | refine thenQ_n ?_ | refine thenQ_r ?_ | refine thenQ_e ?_ | refine blockQ_n ?_ | refine blockQ_r ?_ | refine blockQ_e ?_ | (apply blockQ_o; (exact rfl)) | refine Awp.seq ?_ | refine Awp.skip ?_ | refine Awp.block ?_ | refine reg (fun s => false) ?_ | (apply drwE mixed (fun s => false); (kernel_rfl)) | refine fin ?_ | refine Awp.ret ?_ | refine Awp.exit ?_ | ((first | (apply off; (exact rfl)) | apply condF); (first | (focus (simp only [go_sem, ↓reduceIte, simprocAttr, Int.ofNat_lt.2 hin, t0, t3, t6, hb, hbv, hvl, hvi, hin, Nat.zero_add, hc] <;> rfl)) | exact rfl)))
        all_goals first | contradiction | (exfalso; omega) | skip
        exact ⟨rfl, rfl, by (first | (focus (simp only [go_sem, ↓reduceIte, simprocAttr, t0]; first | done | rfl)) | rfl), by (first | (focus (simp only [go_sem, ↓reduceIte, simprocAttr, t3]; first | done | rfl)) | rfl), by (first | (focus (simp only [go_sem, ↓reduceIte, simprocAttr, t6]; first | done | rfl)) | rfl)⟩
    · have hie : i = n := by omega
      have hpn : pl = n := by omega
      subst hie hpn
      repeat' (first | refine spD (fun _ => ?_) (fun _ => ?_) | refine spF (fun _ => ?_) (fun _ => ?_) | (apply gT; (exact rfl)) | (apply off; (exact rfl); (exact rfl)) | (apply condT; (exact rfl)) | (apply condF; (exact rfl)) | ((first | (apply stp0; (exact rfl); (exact rfl)) | (apply stpN0; (exact rfl)) | apply gT | apply condT | ((first | apply bodyQ_d0 | apply bodyQ_d1 | apply bodyQ_d2 | apply bodyQ_d3 | apply bodyQ_d4); (exact .inr rfl); (rw [Try.results41]))); (first | (focus (simp only [go_sem, ↓reduceIte, simprocAttr, Int.lt_irrefl, t0, t3, t6, hb] <;> rfl)) | exact rfl); (first | (fail_if_success (show okD _ _ _ _ _ _ _ _ _)) | (first | exact okT | exact okN | exact okE rfl)); (first | (fail_if_success (show Bel _ _)) | (focus first | exact .val _ | (simp [oneOf, Bel_iff_tup, Bel_iff_agg, Bel_iff_rsl, Bel_iff_fn, Bel_iff_rptr, Bel_val]; done)))) | refine thenQ_n ?_ | refine thenQ_r ?_ | refine thenQ_e ?_ | refine blockQ_n ?_ | refine blockQ_r ?_ | refine blockQ_e ?_ | (apply blockQ_o; (exact rfl)) | refine Awp.seq ?_ | refine Awp.skip ?_ | refine Awp.block ?_ | refine reg (fun s => false) ?_ | (apply drwE mixed (fun s => false); (kernel_rfl)) | refine fin ?_ | refine Awp.ret ?_ | refine Awp.exit ?_ | ((first | (apply off; (exact rfl)) | apply condF); (first | (focus (simp only [go_sem, ↓reduceIte, simprocAttr, Int.lt_irrefl, t0, t3, t6, hb] <;> rfl)) | exact rfl)))
      all_goals first | contradiction | (exfalso; omega) | skip
      exact ⟨rfl, rfl, by (first | (focus (simp only [go_sem, ↓reduceIte, simprocAttr, t0]; first | done | rfl)) | rfl), by (first | (focus (simp only [go_sem, ↓reduceIte, simprocAttr, t3]; first | done | rfl)) | rfl), by (first | (focus (simp only [go_sem, ↓reduceIte, simprocAttr, t6]; first | done | rfl)) | rfl)⟩

set_option maxRecDepth 8000 in
set_option maxHeartbeats 8000000 in
theorem rTake_ok {H : Hp} {q : Nat} {a : AV} {R : List Item} (hQ : RqX H q a R) (hs : srtR R) (hl : R.length ≤ 256) (r : Item) :
    ACalls Try.prog 41 [.mptr q 0 0, .agg r.cs] H fun v1 H1 => v1 = .tup [bv (tkB R r), iv (tkE R r)] ∧ RTk H q a (tkR R r) H1 := by
  have hb := hQ.hb
  have hql := (List.getElem?_eq_some_iff.1 hb).1
  have hck := rcheck_ok H r
  have hsame : RTk H q a R H := ⟨Nat.le_refl _, fun _ _ _ _ => rfl, a, hQ⟩
  rcases tk_cases R r with ⟨h1, hcd, c1, c2, c3⟩ | ⟨h1, hcd, h2⟩
  · rw [hcd] at hck
    have n2 : ¬ (2 : Int) = 0 := by omega
    simp only [Item.cs] at hck ⊢
    refine ACalls.of_body Try.func41 rfl (by kernel_rfl) (by rw [Try.ntmps41]; simp) ?_; rw [Try.ntmps41]
    repeat' (first | refine spD (fun _ => ?_) (fun _ => ?_) | refine spF (fun _ => ?_) (fun _ => ?_) | (apply gT; (exact rfl)) | (apply off; (exact rfl); (exact rfl)) | (apply condT; (exact rfl)) | (apply condF; (exact rfl)) | ((first | (apply stp0; (exact rfl); (exact rfl)) | (apply stpN0; (exact rfl)) | apply gT | apply condT); (first | (focus (simp only [go_sem, ↓reduceIte, simprocAttr, n2] <;> rfl)) | exact rfl); (first | (fail_if_success (show okD _ _ _ _ _ _ _ _ _)) | (first | exact okT | exact okN | exact okE rfl))) | (apply calTo0; (exact rfl); (iterate 2 (simp only [go_sem, ↓reduceIte, simprocAttr, n2]; rfl)); (first | exact hck); (first | exact okT | exact okN | exact okE rfl)) | refine thenQ_n ?_ | refine thenQ_r ?_ | refine thenQ_e ?_ | refine blockQ_n ?_ | refine blockQ_r ?_ | refine blockQ_e ?_ | (apply blockQ_o; (exact rfl)) | refine Awp.seq ?_ | refine Awp.skip ?_ | refine Awp.block ?_ | refine reg (fun s => false) ?_ | (apply drwE mixed (fun s => false); (kernel_rfl)) | refine fin ?_ | refine Awp.ret ?_ | refine Awp.exit ?_ | ((first | (apply off; (exact rfl)) | apply condF); (first | (focus (simp only [go_sem, ↓reduceIte, simprocAttr, n2] <;> rfl)) | exact rfl)))
    all_goals first | contradiction | (exfalso; omega) | skip
    exact bodyQ_mk (vs := [bv false, iv 2]) (.inr rfl) (by rw [Try.results41]; simp only [go_sem, ↓reduceIte, simprocAttr]) (Vs.refl _ _ _) ⟨by rw [c1, c2]; rfl, by rw [c3]; exact hsame⟩
  · rw [hcd] at hck
    simp only [Item.cs] at hck ⊢
    refine ACalls.of_body Try.func41 rfl (by kernel_rfl) (by rw [Try.ntmps41]; simp) ?_; rw [Try.ntmps41]
    repeat' ((fail_if_success (apply stopR (id := 3))); (fail_if_success (apply stopS (id := 3))); first | refine spD (fun _ => ?_) (fun _ => ?_) | refine spF (fun _ => ?_) (fun _ => ?_) | (apply gT; (exact rfl)) | (apply off; (exact rfl); (exact rfl)) | (apply condT; (exact rfl)) | (apply condF; (exact rfl)) | ((first | (apply stp0; (exact rfl); (exact rfl)) | (apply stpN0; (exact rfl)) | apply gT | apply condT | ((first | apply bodyQ_d0 | apply bodyQ_d1 | apply bodyQ_d2 | apply bodyQ_d3 | apply bodyQ_d4); (exact .inr rfl); (rw [Try.results41]))); (first | (focus (simp only [go_sem, ↓reduceIte, simprocAttr, Item.cs] <;> rfl)) | exact rfl); (first | (fail_if_success (show okD _ _ _ _ _ _ _ _ _)) | (first | exact okT | exact okN | exact okE rfl)); (first | (fail_if_success (show Bel _ _)) | (focus first | exact .val _ | (simp [oneOf, Bel_iff_tup, Bel_iff_agg, Bel_iff_rsl, Bel_iff_fn, Bel_iff_rptr, Bel_val]; done)))) | (apply calTo0; (exact rfl); (iterate 2 (simp only [go_sem, ↓reduceIte, simprocAttr, Item.cs]; rfl)); (first | exact hck); (first | exact okT | exact okN | exact okE rfl)) | refine thenQ_n ?_ | refine thenQ_r ?_ | refine thenQ_e ?_ | refine blockQ_n ?_ | refine blockQ_r ?_ | refine blockQ_e ?_ | (apply blockQ_o; (exact rfl)) | refine Awp.seq ?_ | refine Awp.skip ?_ | refine Awp.block ?_ | refine reg (fun s => false) ?_ | (apply drwE mixed (fun s => false); (kernel_rfl)) | refine fin ?_ | refine Awp.ret ?_ | refine Awp.exit ?_ | ((first | (apply off; (exact rfl)) | apply condF); (first | (focus (simp only [go_sem, ↓reduceIte, simprocAttr, Item.cs] <;> rfl)) | exact rfl)))
    all_goals first | contradiction | (exfalso; omega) | skip
    refine Awp.seq (Awp.mono (Q := fun e T' K => e = .normal ∧ K = H ∧ T' 0 = .mptr q 0 0 ∧ T' 3 = .rptr r.cs 0 ∧ T' 6 = iv 0) ?_ ?_)
    · repeat' (first | refine spD (fun _ => ?_) (fun _ => ?_) | refine spF (fun _ => ?_) (fun _ => ?_) | (apply gT; (exact rfl)) | (apply off; (exact rfl); (exact rfl)) | (apply condT; (exact rfl)) | (apply condF; (exact rfl)) | ((first | (apply stp0; (exact rfl); (exact rfl)) | (apply stpN0; (exact rfl)) | apply gT | apply condT | ((first | apply bodyQ_d0 | apply bodyQ_d1 | apply bodyQ_d2 | apply bodyQ_d3 | apply bodyQ_d4); (exact .inr rfl); (rw [Try.results41]))); (first | (focus (simp only [go_sem, ↓reduceIte, simprocAttr] <;> rfl)) | exact rfl); (first | (fail_if_success (show okD _ _ _ _ _ _ _ _ _)) | (first | exact okT | exact okN | exact okE rfl)); (first | (fail_if_success (show Bel _ _)) | (focus first | exact .val _ | (simp [oneOf, Bel_iff_tup, Bel_iff_agg, Bel_iff_rsl, Bel_iff_fn, Bel_iff_rptr, Bel_val]; done)))) | refine thenQ_n ?_ | refine thenQ_r ?_ | refine thenQ_e ?_ | refine blockQ_n ?_ | refine blockQ_r ?_ | refine blockQ_e ?_ | (apply blockQ_o; (exact rfl)) | refine Awp.seq ?_ | refine Awp.skip ?_ | refine Awp.block ?_ | refine reg (fun s => false) ?_ | (apply drwE mixed (fun s => false); (kernel_rfl)) | refine fin ?_ | refine Awp.ret ?_ | refine Awp.exit ?_ | ((first | (apply off; (exact rfl)) | apply condF); (first | (focus (simp only [go_sem, ↓reduceIte, simprocAttr] <;> rfl)) | exact rfl)))
      all_goals first | contradiction | (exfalso; omega) | skip
      exact ⟨rfl, rfl, by (first | (focus (simp only [go_sem, ↓reduceIte, simprocAttr]; first | done | rfl)) | rfl), by (first | (focus (simp only [go_sem, ↓reduceIte, simprocAttr, Item.cs]; first | done | rfl)) | rfl), by (first | (focus (simp only [go_sem, ↓reduceIte, simprocAttr]; first | done | rfl)) | rfl)⟩
    rintro e T K ⟨rfl, hK, t0, t3, t6⟩
    rw [hK]
    refine thenQ_n ?_
    refine Awp.seq (Awp.mono (rtake0 hQ hl r t0 t3 t6) ?_)
    clear t0 t3 t6 T
    rintro e T K ⟨hK, rfl, t0, t3, t6⟩
    rw [hK]
    refine thenQ_n ?_
    have hpl := placeR_le r.id R
    have hmem := placeR_mem (R := R) (x := r.id) hs
    have hnm : r.id ∉ idsR R → ∀ x, R[placeR R r.id]? = some x → ¬ x.id = r.id := fun k x hx e => k (by rw [← e]; exact List.mem_map.2 ⟨x, List.mem_of_getElem? hx, rfl⟩)
    obtain ⟨pl, hplv⟩ : ∃ pl, pl = placeR R r.id := ⟨_, rfl⟩
    rw [← hplv] at hpl hmem hnm t6
    have tk1 : tkB R r = true → tkR R r = R.take pl ++ r :: R.drop pl := fun k => by unfold tkR; rw [if_pos k, hplv]
    simp only [Item.cs] at t3
    refine Awp.seq (Awp.mono (Q := fun e T' K => K = H ∧ ((e = .ret ∧ r.id ∈ idsR R ∧ T' 4 = bv false ∧ T' 5 = iv 0) ∨ (e = .normal ∧ r.id ∉ idsR R ∧ T' 0 = .mptr q 0 0 ∧ T' 3 = .rptr [iv r.id, iv r.cls, iv r.made, iv r.size, iv r.pk] 0 ∧ T' 6 = iv pl))) ?_ ?_)
    · obtain ⟨R', hR'⟩ : ∃ R', R' = R := ⟨_, rfl⟩
      have hrow := hQ.row
      rw [← hR'] at hrow
      cases hrow with
      | nil =>
        rw [← hR'] at hpl ⊢
        have h0 : pl = 0 := by simpa using hpl
        subst h0
        repeat' (first | refine spD (fun _ => ?_) (fun _ => ?_) | refine spF (fun _ => ?_) (fun _ => ?_) | (apply gT; (exact rfl)) | (apply off; (exact rfl); (exact rfl)) | (apply condT; (exact rfl)) | (apply condF; (exact rfl)) | ((first | (apply stp0; (exact rfl); (exact rfl)) | (apply stpN0; (exact rfl)) | apply gT | apply condT | ((first | apply bodyQ_d0 | apply bodyQ_d1 | apply bodyQ_d2 | apply bodyQ_d3 | apply bodyQ_d4); (exact .inr rfl); (rw [Try.results41]))); (first | (focus (simp only [go_sem, ↓reduceIte, simprocAttr, t0, t3, t6, hb] <;> rfl)) | exact rfl); (first | (fail_if_success (show okD _ _ _ _ _ _ _ _ _)) | (first | exact okT | exact okN | exact okE rfl)); (first | (fail_if_success (show Bel _ _)) | (focus first | exact .val _ | (simp [oneOf, Bel_iff_tup, Bel_iff_agg, Bel_iff_rsl, Bel_iff_fn, Bel_iff_rptr, Bel_val]; done)))) | refine thenQ_n ?_ | refine thenQ_r ?_ | refine thenQ_e ?_ | refine blockQ_n ?_ | refine blockQ_r ?_ | refine blockQ_e ?_ | (apply blockQ_o; (exact rfl)) | refine Awp.seq ?_ | refine Awp.skip ?_ | refine Awp.block ?_ | refine reg (fun s => false) ?_ | (apply drwE mixed (fun s => false); (kernel_rfl)) | refine fin ?_ | refine Awp.ret ?_ | refine Awp.exit ?_ | ((first | (apply off; (exact rfl)) | apply condF); (first | (focus (simp only [go_sem, ↓reduceIte, simprocAttr, t0, t3, t6, hb] <;> rfl)) | exact rfl)))
        all_goals first | contradiction | (exfalso; omega) | skip
        exact ⟨rfl, .inr ⟨rfl, by simp [idsR], by (first | (focus (simp only [go_sem, ↓reduceIte, simprocAttr, t0]; first | done | rfl)) | rfl), by (first | (focus (simp only [go_sem, ↓reduceIte, simprocAttr, t3]; first | done | rfl)) | rfl), by (first | (focus (simp only [go_sem, ↓reduceIte, simprocAttr, t6]; first | done | rfl)) | rfl)⟩⟩
      | row hbv hn =>
        rename_i o n v
        have hln : (v.take n).length = n := by rw [List.length_take, Nat.min_eq_left hn]
        have hvl := its_len v
        rw [← hR', hln] at hpl
        by_cases hin : pl < n
        · obtain ⟨h, hh⟩ := nth (l := v.take n) (i := pl) (by omega)
          have hvi : (its v)[pl]? = some [iv h.id, iv h.cls, iv h.made, iv h.size, iv h.pk] := by
            have h3 := hh
            rw [List.getElem?_take, if_pos hin] at h3
            exact its_at h3
          rw [hR'] at hh
          by_cases he : h.id = r.id
          · repeat' (first | refine spD (fun _ => ?_) (fun _ => ?_) | refine spF (fun _ => ?_) (fun _ => ?_) | (apply gT; (exact rfl)) | (apply off; (exact rfl); (exact rfl)) | (apply condT; (exact rfl)) | (apply condF; (exact rfl)) | ((first | (apply stp0; (exact rfl); (exact rfl)) | (apply stpN0; (exact rfl)) | apply gT | apply condT | ((first | apply bodyQ_d0 | apply bodyQ_d1 | apply bodyQ_d2 | apply bodyQ_d3 | apply bodyQ_d4); (exact .inr rfl); (rw [Try.results41]))); (first | (focus (simp only [go_sem, ↓reduceIte, simprocAttr, Int.ofNat_lt.2 hin, t0, t3, t6, hb, hbv, hvl, hvi, hin, Nat.zero_add, he] <;> rfl)) | exact rfl); (first | (fail_if_success (show okD _ _ _ _ _ _ _ _ _)) | (first | exact okT | exact okN | exact okE rfl)); (first | (fail_if_success (show Bel _ _)) | (focus first | exact .val _ | (simp [oneOf, Bel_iff_tup, Bel_iff_agg, Bel_iff_rsl, Bel_iff_fn, Bel_iff_rptr, Bel_val]; done)))) | refine thenQ_n ?_ | refine thenQ_r ?_ | refine thenQ_e ?_ | refine blockQ_n ?_ | refine blockQ_r ?_ | refine blockQ_e ?_ | (apply blockQ_o; (exact rfl)) | refine Awp.seq ?_ | refine Awp.skip ?_ | refine Awp.block ?_ | refine reg (fun s => false) ?_ | (apply drwE mixed (fun s => false); (kernel_rfl)) | refine fin ?_ | refine Awp.ret ?_ | refine Awp.exit ?_ | ((first | (apply off; (exact rfl)) | apply condF); (first | (focus (simp only [go_sem, ↓reduceIte, simprocAttr, Int.ofNat_lt.2 hin, t0, t3, t6, hb, hbv, hvl, hvi, hin, Nat.zero_add, he] <;> rfl)) | exact rfl)))
            all_goals first | contradiction | (exfalso; omega) | skip
            exact ⟨rfl, .inl ⟨rfl, by rw [← he]; exact List.mem_map.2 ⟨h, List.mem_of_getElem? hh, rfl⟩, by (first | (focus (simp only [go_sem, ↓reduceIte, simprocAttr]; first | done | rfl)) | rfl), by (first | (focus (simp only [go_sem, ↓reduceIte, simprocAttr]; first | done | rfl)) | rfl)⟩⟩
          · have hni : r.id ∉ idsR R := fun k => by
              obtain ⟨x, hx, e⟩ := hmem k
              rw [hh] at hx; cases hx; exact he e
            repeat' (first | refine spD (fun _ => ?_) (fun _ => ?_) | refine spF (fun _ => ?_) (fun _ => ?_) | (apply gT; (exact rfl)) | (apply off; (exact rfl); (exact rfl)) | (apply condT; (exact rfl)) | (apply condF; (exact rfl)) | ((first | (apply stp0; (exact rfl); (exact rfl)) | (apply stpN0; (exact rfl)) | apply gT | apply condT | ((first | apply bodyQ_d0 | apply bodyQ_d1 | apply bodyQ_d2 | apply bodyQ_d3 | apply bodyQ_d4); (exact .inr rfl); (rw [Try.results41]))); (first | (focus (simp only [go_sem, ↓reduceIte, simprocAttr, Int.ofNat_lt.2 hin, t0, t3, t6, hb, hbv, hvl, hvi, hin, Nat.zero_add, he] <;> rfl)) | exact rfl); (first | (fail_if_success (show okD _ _ _ _ _ _ _ _ _)) | (first | exact okT | exact okN | exact okE rfl)); (first | (fail_if_success (show Bel _ _)) | (focus first | exact .val _ | (simp [oneOf, Bel_iff_tup, Bel_iff_agg, Bel_iff_rsl, Bel_iff_fn, Bel_iff_rptr, Bel_val]; done)))) | refine thenQ_n ?_ | refine thenQ_r ?_ | refine thenQ_e ?_ | refine blockQ_n ?_ | refine blockQ_r ?_ | refine blockQ_e ?_ | (apply blockQ_o; (exact rfl)) | refine Awp.seq ?_ | refine Awp.skip ?_ | refine Awp.block ?_ | refine reg (fun s => false) ?_ | (apply drwE mixed (fun s => false); (kernel_rfl)) | refine fin ?_ | refine Awp.ret ?_ | refine Awp.exit ?_ | ((first | (apply off; (exact rfl)) | apply condF); (first | (focus (simp only [go_sem, ↓reduceIte, simprocAttr, Int.ofNat_lt.2 hin, t0, t3, t6, hb, hbv, hvl, hvi, hin, Nat.zero_add, he] <;> rfl)) | exact rfl)))
            all_goals first | contradiction | (exfalso; omega) | skip
            exact ⟨rfl, .inr ⟨rfl, hni, by (first | (focus (simp only [go_sem, ↓reduceIte, simprocAttr, t0]; first | done | rfl)) | rfl), by (first | (focus (simp only [go_sem, ↓reduceIte, simprocAttr, t3]; first | done | rfl)) | rfl), by (first | (focus (simp only [go_sem, ↓reduceIte, simprocAttr, t6]; first | done | rfl)) | rfl)⟩⟩
        · have hpn : pl = n := by omega
          have hni : r.id ∉ idsR R := fun k => by
            obtain ⟨x, hx, e⟩ := hmem k
            have := (List.getElem?_eq_some_iff.1 hx).1
            rw [← hR', hln] at this; omega
          clear hplv
          subst hpn
          repeat' (first | refine spD (fun _ => ?_) (fun _ => ?_) | refine spF (fun _ => ?_) (fun _ => ?_) | (apply gT; (exact rfl)) | (apply off; (exact rfl); (exact rfl)) | (apply condT; (exact rfl)) | (apply condF; (exact rfl)) | ((first | (apply stp0; (exact rfl); (exact rfl)) | (apply stpN0; (exact rfl)) | apply gT | apply condT | ((first | apply bodyQ_d0 | apply bodyQ_d1 | apply bodyQ_d2 | apply bodyQ_d3 | apply bodyQ_d4); (exact .inr rfl); (rw [Try.results41]))); (first | (focus (simp only [go_sem, ↓reduceIte, simprocAttr, Int.lt_irrefl, t0, t3, t6, hb] <;> rfl)) | exact rfl); (first | (fail_if_success (show okD _ _ _ _ _ _ _ _ _)) | (first | exact okT | exact okN | exact okE rfl)); (first | (fail_if_success (show Bel _ _)) | (focus first | exact .val _ | (simp [oneOf, Bel_iff_tup, Bel_iff_agg, Bel_iff_rsl, Bel_iff_fn, Bel_iff_rptr, Bel_val]; done)))) | refine thenQ_n ?_ | refine thenQ_r ?_ | refine thenQ_e ?_ | refine blockQ_n ?_ | refine blockQ_r ?_ | refine blockQ_e ?_ | (apply blockQ_o; (exact rfl)) | refine Awp.seq ?_ | refine Awp.skip ?_ | refine Awp.block ?_ | refine reg (fun s => false) ?_ | (apply drwE mixed (fun s => false); (kernel_rfl)) | refine fin ?_ | refine Awp.ret ?_ | refine Awp.exit ?_ | ((first | (apply off; (exact rfl)) | apply condF); (first | (focus (simp only [go_sem, ↓reduceIte, simprocAttr, Int.lt_irrefl, t0, t3, t6, hb] <;> rfl)) | exact rfl)))
          all_goals first | contradiction | (exfalso; omega) | skip
          exact ⟨rfl, .inr ⟨rfl, hni, by (first | (focus (simp only [go_sem, ↓reduceIte, simprocAttr, t0]; first | done | rfl)) | rfl), by (first | (focus (simp only [go_sem, ↓reduceIte, simprocAttr, t3]; first | done | rfl)) | rfl), by (first | (focus (simp only [go_sem, ↓reduceIte, simprocAttr, t6]; first | done | rfl)) | rfl)⟩⟩
    clear t0 t3 t6 T
    rintro e T K ⟨hK, (⟨rfl, hin, t4, t5⟩ | ⟨rfl, hni, t0, t3, t6⟩)⟩ <;> rw [hK]
    · refine thenQ_r ?_
      rcases h2 with ⟨_, c1, c2, c3⟩ | ⟨hn, _⟩
      · exact bodyQ_mk (vs := [bv false, iv 0]) (.inr rfl) (by rw [Try.results41]; simp only [go_sem, ↓reduceIte, simprocAttr, t4, t5]) (Vs.refl _ _ _) ⟨by rw [c1, c2]; rfl, by rw [c3]; exact hsame⟩
      · exact absurd hin hn
    · refine thenQ_n ?_
      have h3 := (h2.resolve_left (fun h => hni h.1)).2
      refine Awp.seq (Awp.mono (Q := fun e T' K => K = H ∧ ((e = .ret ∧ R.length = 256 ∧ T' 4 = bv false ∧ T' 5 = iv 11) ∨ (e = .normal ∧ ¬ R.length = 256 ∧ T' 0 = .mptr q 0 0 ∧ T' 3 = .rptr r.cs 0 ∧ T' 6 = iv pl))) ?_ ?_)
      · obtain ⟨R', hR'⟩ : ∃ R', R' = R := ⟨_, rfl⟩
        have hrow := hQ.row
        rw [← hR'] at hrow
        cases hrow with
        | nil =>
          rw [← hR']
          repeat' (first | refine spD (fun _ => ?_) (fun _ => ?_) | refine spF (fun _ => ?_) (fun _ => ?_) | (apply gT; (exact rfl)) | (apply off; (exact rfl); (exact rfl)) | (apply condT; (exact rfl)) | (apply condF; (exact rfl)) | ((first | (apply stp0; (exact rfl); (exact rfl)) | (apply stpN0; (exact rfl)) | apply gT | apply condT | ((first | apply bodyQ_d0 | apply bodyQ_d1 | apply bodyQ_d2 | apply bodyQ_d3 | apply bodyQ_d4); (exact .inr rfl); (rw [Try.results41]))); (first | (focus (simp only [go_sem, ↓reduceIte, simprocAttr, t0, t3, t6, hb] <;> rfl)) | exact rfl); (first | (fail_if_success (show okD _ _ _ _ _ _ _ _ _)) | (first | exact okT | exact okN | exact okE rfl)); (first | (fail_if_success (show Bel _ _)) | (focus first | exact .val _ | (simp [oneOf, Bel_iff_tup, Bel_iff_agg, Bel_iff_rsl, Bel_iff_fn, Bel_iff_rptr, Bel_val]; done)))) | refine thenQ_n ?_ | refine thenQ_r ?_ | refine thenQ_e ?_ | refine blockQ_n ?_ | refine blockQ_r ?_ | refine blockQ_e ?_ | (apply blockQ_o; (exact rfl)) | refine Awp.seq ?_ | refine Awp.skip ?_ | refine Awp.block ?_ | refine reg (fun s => false) ?_ | (apply drwE mixed (fun s => false); (kernel_rfl)) | refine fin ?_ | refine Awp.ret ?_ | refine Awp.exit ?_ | ((first | (apply off; (exact rfl)) | apply condF); (first | (focus (simp only [go_sem, ↓reduceIte, simprocAttr, t0, t3, t6, hb] <;> rfl)) | exact rfl)))
          all_goals first | contradiction | (exfalso; omega) | skip
          exact ⟨rfl, .inr ⟨rfl, by simp, by (first | (focus (simp only [go_sem, ↓reduceIte, simprocAttr, t0]; first | done | rfl)) | rfl), by (first | (focus (simp only [go_sem, ↓reduceIte, simprocAttr, t3, Item.cs]; first | done | rfl)) | rfl), by (first | (focus (simp only [go_sem, ↓reduceIte, simprocAttr, t6]; first | done | rfl)) | rfl)⟩⟩
        | row hbv hn =>
          rename_i o n v
          have hln : (v.take n).length = n := by rw [List.length_take, Nat.min_eq_left hn]
          rw [← hR', hln]
          by_cases h56 : n = 256
          · subst h56
            repeat' (first | refine spD (fun _ => ?_) (fun _ => ?_) | refine spF (fun _ => ?_) (fun _ => ?_) | (apply gT; (exact rfl)) | (apply off; (exact rfl); (exact rfl)) | (apply condT; (exact rfl)) | (apply condF; (exact rfl)) | ((first | (apply stp0; (exact rfl); (exact rfl)) | (apply stpN0; (exact rfl)) | apply gT | apply condT | ((first | apply bodyQ_d0 | apply bodyQ_d1 | apply bodyQ_d2 | apply bodyQ_d3 | apply bodyQ_d4); (exact .inr rfl); (rw [Try.results41]))); (first | (focus (simp only [go_sem, ↓reduceIte, simprocAttr, t0, t3, t6, hb] <;> rfl)) | exact rfl); (first | (fail_if_success (show okD _ _ _ _ _ _ _ _ _)) | (first | exact okT | exact okN | exact okE rfl)); (first | (fail_if_success (show Bel _ _)) | (focus first | exact .val _ | (simp [oneOf, Bel_iff_tup, Bel_iff_agg, Bel_iff_rsl, Bel_iff_fn, Bel_iff_rptr, Bel_val]; done)))) | refine thenQ_n ?_ | refine thenQ_r ?_ | refine thenQ_e ?_ | refine blockQ_n ?_ | refine blockQ_r ?_ | refine blockQ_e ?_ | (apply blockQ_o; (exact rfl)) | refine Awp.seq ?_ | refine Awp.skip ?_ | refine Awp.block ?_ | refine reg (fun s => false) ?_ | (apply drwE mixed (fun s => false); (kernel_rfl)) | refine fin ?_ | refine Awp.ret ?_ | refine Awp.exit ?_ | ((first | (apply off; (exact rfl)) | apply condF); (first | (focus (simp only [go_sem, ↓reduceIte, simprocAttr, t0, t3, t6, hb] <;> rfl)) | exact rfl)))
            all_goals first | contradiction | (exfalso; omega) | skip
            exact ⟨rfl, .inl ⟨rfl, rfl, by (first | (focus (simp only [go_sem, ↓reduceIte, simprocAttr]; first | done | rfl)) | rfl), by (first | (focus (simp only [go_sem, ↓reduceIte, simprocAttr]; first | done | rfl)) | rfl)⟩⟩
          · have hne : ¬ (n : Int) = 256 := by omega
            repeat' (first | refine spD (fun _ => ?_) (fun _ => ?_) | refine spF (fun _ => ?_) (fun _ => ?_) | (apply gT; (exact rfl)) | (apply off; (exact rfl); (exact rfl)) | (apply condT; (exact rfl)) | (apply condF; (exact rfl)) | ((first | (apply stp0; (exact rfl); (exact rfl)) | (apply stpN0; (exact rfl)) | apply gT | apply condT | ((first | apply bodyQ_d0 | apply bodyQ_d1 | apply bodyQ_d2 | apply bodyQ_d3 | apply bodyQ_d4); (exact .inr rfl); (rw [Try.results41]))); (first | (focus (simp only [go_sem, ↓reduceIte, simprocAttr, t0, t3, t6, hb, hne] <;> rfl)) | exact rfl); (first | (fail_if_success (show okD _ _ _ _ _ _ _ _ _)) | (first | exact okT | exact okN | exact okE rfl)); (first | (fail_if_success (show Bel _ _)) | (focus first | exact .val _ | (simp [oneOf, Bel_iff_tup, Bel_iff_agg, Bel_iff_rsl, Bel_iff_fn, Bel_iff_rptr, Bel_val]; done)))) | refine thenQ_n ?_ | refine thenQ_r ?_ | refine thenQ_e ?_ | refine blockQ_n ?_ | refine blockQ_r ?_ | refine blockQ_e ?_ | (apply blockQ_o; (exact rfl)) | refine Awp.seq ?_ | refine Awp.skip ?_ | refine Awp.block ?_ | refine reg (fun s => false) ?_ | (apply drwE mixed (fun s => false); (kernel_rfl)) | refine fin ?_ | refine Awp.ret ?_ | refine Awp.exit ?_ | ((first | (apply off; (exact rfl)) | apply condF); (first | (focus (simp only [go_sem, ↓reduceIte, simprocAttr, t0, t3, t6, hb, hne] <;> rfl)) | exact rfl)))
            all_goals first | contradiction | (exfalso; omega) | skip
            exact ⟨rfl, .inr ⟨rfl, h56, by (first | (focus (simp only [go_sem, ↓reduceIte, simprocAttr, t0]; first | done | rfl)) | rfl), by (first | (focus (simp only [go_sem, ↓reduceIte, simprocAttr, t3, Item.cs]; first | done | rfl)) | rfl), by (first | (focus (simp only [go_sem, ↓reduceIte, simprocAttr, t6]; first | done | rfl)) | rfl)⟩⟩
      clear t0 t3 t6 T
      rintro e T K ⟨hK, (⟨rfl, h56, t4, t5⟩ | ⟨rfl, h56, t0, t3, t6⟩)⟩ <;> rw [hK]
      · refine thenQ_r ?_
        rcases h3 with ⟨_, c1, c2, c3⟩ | ⟨hn, _⟩
        · exact bodyQ_mk (vs := [bv false, iv 11]) (.inr rfl) (by rw [Try.results41]; simp only [go_sem, ↓reduceIte, simprocAttr, t4, t5]) (Vs.refl _ _ _) ⟨by rw [c1, c2]; rfl, by rw [c3]; exact hsame⟩
        · omega
      · refine thenQ_n ?_
        have h4 := h3.resolve_left (fun h => by omega)
        obtain ⟨hlt, c1, c2⟩ := h4
        have hfin : ∀ (K : Hp), K.length = H.length → K[q]? = some (.cells [[.rsl (its R) false]] 80) → (∀ j, j < H.length → j ≠ q → (∀ m, a ≠ .msl j 0 m) → K[j]? = H[j]?) →
            Awp Try.prog 79 none (tl (tl (tl (tl (tl (tl (Try.f41.body.getD .skip))))))) T K (bodyQ Try.prog Try.f41 H fun v1 H1 => v1 = .tup [bv (tkB R r), iv (tkE R r)] ∧ RTk H q a (tkR R r) H1) := by
          intro K hKl hKq hold
          refine Awp.seq ?_
          refine rtake10 hKq hl pl hpl t0 t3 t6 fun T' K' o g1 g2 g3 g4 => ?_
          refine thenQ_n ?_
          repeat' (first | refine spD (fun _ => ?_) (fun _ => ?_) | refine spF (fun _ => ?_) (fun _ => ?_) | (apply gT; (exact rfl)) | (apply off; (exact rfl); (exact rfl)) | (apply condT; (exact rfl)) | (apply condF; (exact rfl)) | ((first | (apply stp0; (exact rfl); (exact rfl)) | (apply stpN0; (exact rfl)) | apply gT | apply condT); (first | (focus (simp only [go_sem, ↓reduceIte, simprocAttr] <;> rfl)) | exact rfl); (first | (fail_if_success (show okD _ _ _ _ _ _ _ _ _)) | (first | exact okT | exact okN | exact okE rfl))) | refine thenQ_n ?_ | refine thenQ_r ?_ | refine thenQ_e ?_ | refine blockQ_n ?_ | refine blockQ_r ?_ | refine blockQ_e ?_ | (apply blockQ_o; (exact rfl)) | refine Awp.seq ?_ | refine Awp.skip ?_ | refine Awp.block ?_ | refine reg (fun s => false) ?_ | (apply drwE mixed (fun s => false); (kernel_rfl)) | refine fin ?_ | refine Awp.ret ?_ | refine Awp.exit ?_ | ((first | (apply off; (exact rfl)) | apply condF); (first | (focus (simp only [go_sem, ↓reduceIte, simprocAttr] <;> rfl)) | exact rfl)))
          all_goals first | contradiction | (exfalso; omega) | skip
          have hlen : (R.take pl ++ r :: R.drop pl).length = R.length + 1 := by rw [List.length_append, List.length_cons, List.length_take, List.length_drop]; omega
          have hrow := ItAt.row g4 (Nat.le_refl _)
          rw [List.take_length, hlen] at hrow
          exact bodyQ_mk (vs := [bv true, iv 0]) (.inr rfl) (by rw [Try.results41]; simp only [go_sem, ↓reduceIte, simprocAttr]) (Vs.refl _ _ _) ⟨by rw [c1, c2]; rfl, ⟨by omega, fun j hj e1 e2 => by rw [g2 j (by omega) e1]; exact hold j hj e1 e2, .msl o 0 (R.length + 1), g3, by rw [tk1 c2]; exact hrow⟩⟩
        have hrow := hQ.row
        obtain ⟨R', hR'⟩ : ∃ R', R' = R := ⟨_, rfl⟩
        rw [← hR'] at hrow
        cases hrow with
        | nil =>
          refine Awp.frzCellNil (k := 0) hb rfl ?_
          refine hfin _ (List.length_set ..) ?_ (fun j hj e1 e2 => List.getElem?_set_ne (Ne.symm e1))
          rw [← hR']
          exact List.getElem?_set_self hql
        | row hbv hn =>
          rename_i o n v
          have hvl := its_len v
          have hqo : q ≠ o := by rintro rfl; rw [hb] at hbv; simp at hbv
          refine Awp.frzCell (k := 0) hqo hb rfl hbv (by rw [hvl]; exact hn) ?_
          refine hfin _ (by rw [List.length_set, List.length_set]) ?_ (fun j hj e1 e2 => ?_)
          · rw [← hR', its_take]
            exact List.getElem?_set_self (by rw [List.length_set]; exact hql)
          · rw [List.getElem?_set_ne (Ne.symm e1), List.getElem?_set_ne (fun e => e2 n (by rw [e]))]

end Go.Proofs.Ytlhchnnfgppneaa.Ab
