/- The law BufferOnce: what is sent arrives. The law BufferOnce: the acknowledgement, and what is looked at. The law BufferOnce: each record is held, or has arrived, or was dropped. Buffers: bursts, what the law asks for; the burst that is refused. A row that a struct's field names is frozen, with the field. -/
import Derived.Test.YtlhchnnfgppneaaYP
import Derived.Test.YtlhchnnfgppneaaYM
import Derived.Test.YtlhchnnfgppneaaYH
namespace Go.Proofs.Ytlhchnnfgppneaa.Ab
open Go Go.RowKit Go.Proofs
set_option linter.unusedSimpArgs false
set_option linter.unusedVariables false
attribute [local irreducible] Awp wpO thenQ blockQ bodyQ ACalls stepA

theorem tkR_in {R : List Item} {r : Item} (hr : r.ok) (hl : R.length < 256) : (∀ x ∈ idsR R, x ∈ idsR (tkR R r)) ∧ r.id ∈ idsR (tkR R r) := by
  unfold tkR
  by_cases h : r.id ∈ idsR R
  · have e : tkB R r = false := by simp [tkB, h]
    rw [if_neg (by rw [e]; decide)]; exact ⟨fun _ h => h, h⟩
  · have e : tkB R r = true := by simp [tkB, h, hr, hl]
    rw [if_pos e]
    refine ⟨fun x hx => ?_, List.mem_map.2 ⟨r, insR_mem.2 (.inl rfl), rfl⟩⟩
    obtain ⟨z, hz, rfl⟩ := List.mem_map.1 hx
    exact List.mem_map.2 ⟨z, insR_mem.2 (.inr hz), rfl⟩

set_option maxRecDepth 8000 in
set_option maxHeartbeats 8000000 in
theorem once2 {K : Hp} {rs : List Rd} {ex : Bool} {F : Ft} {w : Rw} {S : Bf} {m : Nat} {R : List Item} {al gn : Nat} {G : Int → Option Item} {g : List Bool} {n : Nat} {i t : Int} {rb : Nat} {p : Rd} {T : Env} (hT : E12 rs ex F.b m al gn n i rb T) (hK : Lk K F w S m R al gn G g) (hI : Inv G n g S R t)
    (hx : K[rb]? = some (.cells [p.cs] 104)) (hn : n ≤ 84) (o : List Int) (t19 : T 19 = .rsl (ints o) false) (ho : ∀ x ∈ o, x ∈ idsL S.L) (hol : o.length ≤ maxLen) :
    Awp Try.prog 313 none (hdC (tl (tl (tl (tl (tl (tl (tl (inC (hdC (tl (inC (inC (tl (hdC (tl (tl (tl (tl (tl (tl (tl (tl (Try.f12.body.getD .skip)))))))))))))))))))))))) T K (Q12 rs ex F m al gn i rb p t fun n' S' R' _ _ => n' = n ∧ S' = S ∧ (p.L = 0 → ∀ x ∈ o, x ∈ idsR R')) := by
  obtain ⟨t1, t5, t7, t8, t9, t10, t11, t12⟩ := hT
  have hlo := ints_len o
  unfold Try.f12
  simp only [tl, hdC, inC, Option.getD_some]
  repeat' (first | refine spD (fun _ => ?_) (fun _ => ?_) | refine spF (fun _ => ?_) (fun _ => ?_) | (apply gT; (exact rfl)) | (apply off; (exact rfl); (exact rfl)) | (apply condT; (exact rfl)) | (apply condF; (exact rfl)) | ((first | (apply stp0; (exact rfl); (exact rfl)) | (apply stpN0; (exact rfl)) | apply gT | apply condT | ((first | apply bodyQ_d0 | apply bodyQ_d1 | apply bodyQ_d2 | apply bodyQ_d3 | apply bodyQ_d4); (exact .inr rfl); (rw [Try.results12]))); (first | (focus (simp only [go_sem, ↓reduceIte, simprocAttr, t1, t5, t7, t8, t9, t10, t11, t12, t19] <;> rfl)) | exact rfl); (first | (fail_if_success (show okD _ _ _ _ _ _ _ _ _)) | (first | exact okT | exact okN | exact okE rfl)); (first | (fail_if_success (show Bel _ _)) | (focus first | exact .val _ | (simp [oneOf, Bel_iff_tup, Bel_iff_agg, Bel_iff_rsl, Bel_iff_fn, Bel_iff_rptr, Bel_val]; done)))) | refine thenQ_n ?_ | refine thenQ_r ?_ | refine thenQ_e ?_ | refine blockQ_n ?_ | refine blockQ_r ?_ | refine blockQ_e ?_ | (apply blockQ_o; (exact rfl)) | refine Awp.seq ?_ | refine Awp.skip ?_ | refine Awp.block ?_ | refine reg (fun s => s == 12 || s == 14 || s == 22 || s == 31) ?_ | (apply drwE mixed (fun s => s == 12 || s == 14 || s == 22 || s == 31); (kernel_rfl)) | refine fin ?_ | refine Awp.ret ?_ | refine Awp.exit ?_ | ((first | (apply off; (exact rfl)) | apply condF); (first | (focus (simp only [go_sem, ↓reduceIte, simprocAttr, t1, t5, t7, t8, t9, t10, t11, t12, t19] <;> rfl)) | exact rfl)))
  all_goals first | contradiction | skip
  refine Awp.loop (ι := Nat) (fun k T' K' => k ≤ o.length ∧ T' 21 = iv k ∧ T' 19 = .rsl (ints o) false ∧ E12 rs ex F.b m al gn n i rb T' ∧ ∃ R, Lk K' F w S m R al gn G g ∧ Inv G n g S R t ∧ K'[rb]? = some (.cells [p.cs] 104) ∧ (p.L = 0 → ∀ x ∈ o.take k, x ∈ idsR R)) (fun k => o.length - k) 0 ?_ ?_
  · exact ⟨Nat.zero_le _, by (first | (focus (simp only [go_sem, ↓reduceIte, simprocAttr]; first | done | rfl)) | rfl), by (first | (focus (simp only [go_sem, ↓reduceIte, simprocAttr, t19]; first | done | rfl)) | rfl), ⟨by (first | (focus (simp only [go_sem, ↓reduceIte, simprocAttr, t1]; first | done | rfl)) | rfl), by (first | (focus (simp only [go_sem, ↓reduceIte, simprocAttr, t5]; first | done | rfl)) | rfl), by (first | (focus (simp only [go_sem, ↓reduceIte, simprocAttr, t7]; first | done | rfl)) | rfl), by (first | (focus (simp only [go_sem, ↓reduceIte, simprocAttr, t8]; first | done | rfl)) | rfl), by (first | (focus (simp only [go_sem, ↓reduceIte, simprocAttr, t9]; first | done | rfl)) | rfl), by (first | (focus (simp only [go_sem, ↓reduceIte, simprocAttr, t10]; first | done | rfl)) | rfl), by (first | (focus (simp only [go_sem, ↓reduceIte, simprocAttr, t11]; first | done | rfl)) | rfl), by (first | (focus (simp only [go_sem, ↓reduceIte, simprocAttr, t12]; first | done | rfl)) | rfl)⟩, R, hK, hI, hx, by simp⟩
  clear t1 t5 t7 t8 t9 t10 t11 t12 t19 T hK hI hx K R
  rintro k T K ⟨hk, t21, t19, ⟨t1, t5, t7, t8, t9, t10, t11, t12⟩, R, hK, hI, hx, har⟩
  by_cases hkl : k < o.length
  · obtain ⟨x, hxk⟩ := nth hkl
    have hxc : (ints o)[k]? = some [iv x] := nthMap (fun x => [iv x]) hxk
    obtain ⟨h, hh, hhx⟩ := List.mem_map.1 (ho x (List.mem_of_getElem? hxk))
    have hG := hI.hS h hh
    have hhx' : h.r.id = x := hhx
    rw [hhx'] at hG
    obtain ⟨hid, hok, hx0, hx1⟩ := hI.g1 x _ hG
    generalize h.r = r at *
    obtain ⟨ka, hka, hkm⟩ := hK.all
    have hgm : getM ka x = some (.agg r.cs) := by rw [hkm.get]; unfold agF; rw [hG]; rfl
    have hlk : lookA Try.prog 40 (.mp al) (iv x) true K = some (.tup [.agg [iv r.id, iv r.cls, iv r.made, iv r.size, iv r.pk], bv true]) := by
      rw [(mT40.look0 hka x).1, hgm]; rfl
    have hsu := wsucc hkl hol
    have hm16 := tmod_in (x := (k : Int)) (y := 16) (by omega) (by omega)
    obtain ⟨z, hz, hz0⟩ := shr16 p.L ((k : Int).tmod 16) hm16
    have hzb : ∀ a b, binA Try.prog .shr 38 a b (.val (.int .u16 p.L)) (iv ((k : Int).tmod 16)) = some (.val (.int .u16 z)) := fun a b => hz
    have hG1 := (Grow.refl K).app [.cells [[iv r.id, iv r.cls, iv r.made, iv r.size, iv r.pk]] 23]
    have hK1 := hK.grow hG1
    have hx1' := hG1.get hx
    have h22 := get_new K (.cells [[iv r.id, iv r.cls, iv r.made, iv r.size, iv r.pk]] 23)
    have hRl : R.length < 256 := by have := hI.rlen; omega
    simp only [Rd.cs, u16v] at hx hx1'
    cases hzz : (z.tmod 2 == 1) with
    | true =>
      repeat' (first | refine spD (fun _ => ?_) (fun _ => ?_) | refine spF (fun _ => ?_) (fun _ => ?_) | (apply gT; (exact rfl)) | (apply off; (exact rfl); (exact rfl)) | (apply condT; (exact rfl)) | (apply condF; (exact rfl)) | ((first | (apply stp0; (exact rfl); (exact rfl)) | (apply stpN0; (exact rfl)) | apply gT | apply condT | ((first | apply bodyQ_d0 | apply bodyQ_d1 | apply bodyQ_d2 | apply bodyQ_d3 | apply bodyQ_d4); (exact .inr rfl); (rw [Try.results12]))); (first | (focus (simp only [go_sem, ↓reduceIte, simprocAttr, Int.ofNat_lt.2 hkl, t8, t12, t19, t21, hlo, hxc, hlk, hzb, hz, hzz, hx1', hsu] <;> rfl)) | exact rfl); (first | (fail_if_success (show okD _ _ _ _ _ _ _ _ _)) | (first | exact okT | exact okN | exact okE rfl)); (first | (fail_if_success (show Bel _ _)) | (focus first | exact .val _ | (simp [oneOf, Bel_iff_tup, Bel_iff_agg, Bel_iff_rsl, Bel_iff_fn, Bel_iff_rptr, Bel_val]; done)))) | refine thenQ_n ?_ | refine thenQ_r ?_ | refine thenQ_e ?_ | refine blockQ_n ?_ | refine blockQ_r ?_ | refine blockQ_e ?_ | (apply blockQ_o; (exact rfl)) | refine Awp.seq ?_ | refine Awp.skip ?_ | refine Awp.block ?_ | refine reg (fun s => s == 12 || s == 14 || s == 22 || s == 31) ?_ | (apply drwE mixed (fun s => s == 12 || s == 14 || s == 22 || s == 31); (kernel_rfl)) | refine fin ?_ | refine Awp.ret ?_ | refine Awp.exit ?_ | ((first | (apply off; (exact rfl)) | apply condF); (first | (focus (simp only [go_sem, ↓reduceIte, simprocAttr, Int.ofNat_lt.2 hkl, t8, t12, t19, t21, hlo, hxc, hlk, hzb, hz, hzz, hx1', hsu] <;> rfl)) | exact rfl)))
      all_goals first | contradiction | skip
      refine ⟨k + 1, ⟨hkl, by (first | (focus (simp only [go_sem, ↓reduceIte, simprocAttr, hsu]; first | done | rfl)) | rfl), by (first | (focus (simp only [go_sem, ↓reduceIte, simprocAttr, t19]; first | done | rfl)) | rfl), ⟨by (first | (focus (simp only [go_sem, ↓reduceIte, simprocAttr, t1]; first | done | rfl)) | rfl), by (first | (focus (simp only [go_sem, ↓reduceIte, simprocAttr, t5]; first | done | rfl)) | rfl), by (first | (focus (simp only [go_sem, ↓reduceIte, simprocAttr, t7]; first | done | rfl)) | rfl), by (first | (focus (simp only [go_sem, ↓reduceIte, simprocAttr, t8]; first | done | rfl)) | rfl), by (first | (focus (simp only [go_sem, ↓reduceIte, simprocAttr, t9]; first | done | rfl)) | rfl), by (first | (focus (simp only [go_sem, ↓reduceIte, simprocAttr, t10]; first | done | rfl)) | rfl), by (first | (focus (simp only [go_sem, ↓reduceIte, simprocAttr, t11]; first | done | rfl)) | rfl), by (first | (focus (simp only [go_sem, ↓reduceIte, simprocAttr, t12]; first | done | rfl)) | rfl)⟩, R, hK1, hI, hx1', fun e => ?_⟩, Nat.sub_lt_sub_left hkl (Nat.lt_succ_self k)⟩
      rw [hz0 e] at hzz; exact absurd hzz (by decide)
    | false =>
      have htk := takeX hK1.ibx r
      simp only [Item.cs] at htk
      have he : tkE R r = 0 := by
        rcases tk_cases R r with ⟨c, _⟩ | ⟨_, _, ⟨_, e, _⟩ | ⟨_, ⟨c, _⟩ | ⟨_, e, _⟩⟩⟩
        · exact absurd hok c
        · exact e
        · omega
        · exact e
      obtain ⟨in1, in2⟩ := tkR_in hok hRl
      repeat' (first | refine spD (fun _ => ?_) (fun _ => ?_) | refine spF (fun _ => ?_) (fun _ => ?_) | (apply gT; (exact rfl)) | (apply off; (exact rfl); (exact rfl)) | (apply condT; (exact rfl)) | (apply condF; (exact rfl)) | ((first | (apply stp0; (exact rfl); (exact rfl)) | (apply stpN0; (exact rfl)) | apply gT | apply condT | ((first | apply bodyQ_d0 | apply bodyQ_d1 | apply bodyQ_d2 | apply bodyQ_d3 | apply bodyQ_d4); (exact .inr rfl); (rw [Try.results12]))); (first | (focus (simp only [go_sem, ↓reduceIte, simprocAttr, Int.ofNat_lt.2 hkl, t7, t8, t12, t19, t21, hlo, hxc, hlk, hzb, hz, hzz, hx1', h22] <;> rfl)) | exact rfl); (first | (fail_if_success (show okD _ _ _ _ _ _ _ _ _)) | (first | exact okT | exact okN | exact okE rfl)); (first | (fail_if_success (show Bel _ _)) | (focus first | exact .val _ | (simp [oneOf, Bel_iff_tup, Bel_iff_agg, Bel_iff_rsl, Bel_iff_fn, Bel_iff_rptr, Bel_val]; done)))) | refine thenQ_n ?_ | refine thenQ_r ?_ | refine thenQ_e ?_ | refine blockQ_n ?_ | refine blockQ_r ?_ | refine blockQ_e ?_ | (apply blockQ_o; (exact rfl)) | refine Awp.seq ?_ | refine Awp.skip ?_ | refine Awp.block ?_ | refine reg (fun s => s == 12 || s == 14 || s == 22 || s == 31) ?_ | (apply drwE mixed (fun s => s == 12 || s == 14 || s == 22 || s == 31); (kernel_rfl)) | refine fin ?_ | refine Awp.ret ?_ | refine Awp.exit ?_ | ((first | (apply off; (exact rfl)) | apply condF); (first | (focus (simp only [go_sem, ↓reduceIte, simprocAttr, Int.ofNat_lt.2 hkl, t7, t8, t12, t19, t21, hlo, hxc, hlk, hzb, hz, hzz, hx1', h22] <;> rfl)) | exact rfl)))
      all_goals first | contradiction | skip
      refine cal rfl rfl rfl ?_ (show ACallV Try.prog (.fn (.func 40) []) [.rptr [.mp m] 0, .agg [iv r.id, iv r.cls, iv r.made, iv r.size, iv r.pk]] (K ++ [.cells [[iv r.id, iv r.cls, iv r.made, iv r.size, iv r.pk]] 23]) _ from htk) ?_
      · (first | (focus (simp only [go_sem, ↓reduceIte, simprocAttr, t7]; first | done | rfl)) | rfl)
      rintro v1 K2 ⟨rfl, hX2, hF⟩
      have hK2 := hK1.take hX2 hF
      have hx2 := hK1.cellM hF hx1'
      rw [he]
      have hI2 := hI.take (y := r) (by rw [hid]; exact hG)
      cases hb : tkB R r <;> (
        repeat' (first | refine spD (fun _ => ?_) (fun _ => ?_) | refine spF (fun _ => ?_) (fun _ => ?_) | (apply gT; (exact rfl)) | (apply off; (exact rfl); (exact rfl)) | (apply condT; (exact rfl)) | (apply condF; (exact rfl)) | ((first | (apply stp0; (exact rfl); (exact rfl)) | (apply stpN0; (exact rfl)) | apply gT | apply condT | ((first | apply bodyQ_d0 | apply bodyQ_d1 | apply bodyQ_d2 | apply bodyQ_d3 | apply bodyQ_d4); (exact .inr rfl); (rw [Try.results12]))); (first | (focus (simp only [go_sem, ↓reduceIte, simprocAttr, hb, hsu, t21] <;> rfl)) | exact rfl); (first | (fail_if_success (show okD _ _ _ _ _ _ _ _ _)) | (first | exact okT | exact okN | exact okE rfl)); (first | (fail_if_success (show Bel _ _)) | (focus first | exact .val _ | (simp [oneOf, Bel_iff_tup, Bel_iff_agg, Bel_iff_rsl, Bel_iff_fn, Bel_iff_rptr, Bel_val]; done)))) | refine thenQ_n ?_ | refine thenQ_r ?_ | refine thenQ_e ?_ | refine blockQ_n ?_ | refine blockQ_r ?_ | refine blockQ_e ?_ | (apply blockQ_o; (exact rfl)) | refine Awp.seq ?_ | refine Awp.skip ?_ | refine Awp.block ?_ | refine reg (fun s => s == 12 || s == 14 || s == 22 || s == 31) ?_ | (apply drwE mixed (fun s => s == 12 || s == 14 || s == 22 || s == 31); (kernel_rfl)) | refine fin ?_ | refine Awp.ret ?_ | refine Awp.exit ?_ | ((first | (apply off; (exact rfl)) | apply condF); (first | (focus (simp only [go_sem, ↓reduceIte, simprocAttr, hb, hsu, t21] <;> rfl)) | exact rfl)))
        all_goals first | contradiction | skip
        refine ⟨k + 1, ⟨hkl, by (first | (focus (simp only [go_sem, ↓reduceIte, simprocAttr, hsu]; first | done | rfl)) | rfl), by (first | (focus (simp only [go_sem, ↓reduceIte, simprocAttr, t19]; first | done | rfl)) | rfl), ⟨by (first | (focus (simp only [go_sem, ↓reduceIte, simprocAttr, t1]; first | done | rfl)) | rfl), by (first | (focus (simp only [go_sem, ↓reduceIte, simprocAttr, t5]; first | done | rfl)) | rfl), by (first | (focus (simp only [go_sem, ↓reduceIte, simprocAttr, t7]; first | done | rfl)) | rfl), by (first | (focus (simp only [go_sem, ↓reduceIte, simprocAttr, t8]; first | done | rfl)) | rfl), by (first | (focus (simp only [go_sem, ↓reduceIte, simprocAttr, t9]; first | done | rfl)) | rfl), by (first | (focus (simp only [go_sem, ↓reduceIte, simprocAttr, t10]; first | done | rfl)) | rfl), by (first | (focus (simp only [go_sem, ↓reduceIte, simprocAttr, t11]; first | done | rfl)) | rfl), by (first | (focus (simp only [go_sem, ↓reduceIte, simprocAttr, t12]; first | done | rfl)) | rfl)⟩, _, hK2, hI2, hx2, fun e y hy => ?_⟩, Nat.sub_lt_sub_left hkl (Nat.lt_succ_self k)⟩
        rw [List.take_add_one, hxk] at hy
        rcases List.mem_append.1 hy with c | c
        · exact in1 y (har e y c)
        · simp at c; rw [c, ← hid]; exact in2)
  · have hke : k = o.length := Nat.le_antisymm hk (Nat.not_lt.1 hkl)
    subst hke
    rw [List.take_length] at har
    repeat' (first | refine spD (fun _ => ?_) (fun _ => ?_) | refine spF (fun _ => ?_) (fun _ => ?_) | (apply gT; (exact rfl)) | (apply off; (exact rfl); (exact rfl)) | (apply condT; (exact rfl)) | (apply condF; (exact rfl)) | ((first | (apply stp0; (exact rfl); (exact rfl)) | (apply stpN0; (exact rfl)) | apply gT | apply condT | ((first | apply bodyQ_d0 | apply bodyQ_d1 | apply bodyQ_d2 | apply bodyQ_d3 | apply bodyQ_d4); (exact .inr rfl); (rw [Try.results12]))); (first | (focus (simp only [go_sem, ↓reduceIte, simprocAttr, Int.lt_irrefl, t19, t21, hlo] <;> rfl)) | exact rfl); (first | (fail_if_success (show okD _ _ _ _ _ _ _ _ _)) | (first | exact okT | exact okN | exact okE rfl)); (first | (fail_if_success (show Bel _ _)) | (focus first | exact .val _ | (simp [oneOf, Bel_iff_tup, Bel_iff_agg, Bel_iff_rsl, Bel_iff_fn, Bel_iff_rptr, Bel_val]; done)))) | refine thenQ_n ?_ | refine thenQ_r ?_ | refine thenQ_e ?_ | refine blockQ_n ?_ | refine blockQ_r ?_ | refine blockQ_e ?_ | (apply blockQ_o; (exact rfl)) | refine Awp.seq ?_ | refine Awp.skip ?_ | refine Awp.block ?_ | refine reg (fun s => s == 12 || s == 14 || s == 22 || s == 31) ?_ | (apply drwE mixed (fun s => s == 12 || s == 14 || s == 22 || s == 31); (kernel_rfl)) | refine fin ?_ | refine Awp.ret ?_ | refine Awp.exit ?_ | ((first | (apply off; (exact rfl)) | apply condF); (first | (focus (simp only [go_sem, ↓reduceIte, simprocAttr, Int.lt_irrefl, t19, t21, hlo] <;> rfl)) | exact rfl)))
    all_goals first | contradiction | skip
    exact ⟨rfl, n, w, S, R, G, g, ⟨by (first | (focus (simp only [go_sem, ↓reduceIte, simprocAttr, t1]; first | done | rfl)) | rfl), by (first | (focus (simp only [go_sem, ↓reduceIte, simprocAttr, t5]; first | done | rfl)) | rfl), by (first | (focus (simp only [go_sem, ↓reduceIte, simprocAttr, t7]; first | done | rfl)) | rfl), by (first | (focus (simp only [go_sem, ↓reduceIte, simprocAttr, t8]; first | done | rfl)) | rfl), by (first | (focus (simp only [go_sem, ↓reduceIte, simprocAttr, t9]; first | done | rfl)) | rfl), by (first | (focus (simp only [go_sem, ↓reduceIte, simprocAttr, t10]; first | done | rfl)) | rfl), by (first | (focus (simp only [go_sem, ↓reduceIte, simprocAttr, t11]; first | done | rfl)) | rfl), by (first | (focus (simp only [go_sem, ↓reduceIte, simprocAttr, t12]; first | done | rfl)) | rfl)⟩, hK, hI, hx, rfl, rfl, har⟩

end Go.Proofs.Ytlhchnnfgppneaa.Ab
namespace Go.Proofs.Ytlhchnnfgppneaa.Ab
open Go Go.RowKit Go.Proofs
set_option linter.unusedSimpArgs false
set_option linter.unusedVariables false
attribute [local irreducible] Awp wpO thenQ blockQ bodyQ ACalls stepA

set_option maxRecDepth 8000 in
set_option maxHeartbeats 8000000 in
theorem once3 {K : Hp} {rs : List Rd} {ex : Bool} {F : Ft} {w : Rw} {S : Bf} {m : Nat} {R : List Item} {al gn : Nat} {G : Int → Option Item} {g : List Bool} {n : Nat} {i t : Int} {rb : Nat} {p : Rd} {T : Env} (hT : E12 rs ex F.b m al gn n i rb T) (hK : Lk K F w S m R al gn G g) (hI : Inv G n g S R t)
    (hx : K[rb]? = some (.cells [p.cs] 104)) (hn : n ≤ 84) :
    Awp Try.prog 313 none (hdC (tl (tl (tl (tl (tl (tl (tl (tl (inC (hdC (tl (inC (inC (tl (hdC (tl (tl (tl (tl (tl (tl (tl (tl (Try.f12.body.getD .skip))))))))))))))))))))))))) T K (Q12 rs ex F m al gn i rb p t fun n' S' R' _ _ => n' = n ∧ R' = R ∧ (p.D = false → (∀ x ∈ idsL S.L, x ∈ idsR R) → S'.L = [])) := by
  obtain ⟨t1, t5, t7, t8, t9, t10, t11, t12⟩ := hT
  have hRl : R.length ≤ 84 := by have := hI.rlen; omega
  have c1 := acksX hK.ibx (by omega)
  obtain ⟨hset, hsin⟩ := ack_set hI.srt hI.rok (by omega)
  have hal : (ackL R).length ≤ R.length := ackT_len R R.length
  have hA := Ack_ok hK.rep hI.good (ackL R) false hset (by simp only [maxLen]; omega)
  have hD := hI.ackAll
  have hI2 := hI.ack
  simp only [Rd.cs, u16v] at hx
  unfold Try.f12
  simp only [tl, hdC, inC, Option.getD_some]
  cases hd : p.D with
  | true =>
    rw [hd] at hx
    repeat' (first | refine spD (fun _ => ?_) (fun _ => ?_) | refine spF (fun _ => ?_) (fun _ => ?_) | (apply gT; (exact rfl)) | (apply off; (exact rfl); (exact rfl)) | (apply condT; (exact rfl)) | (apply condF; (exact rfl)) | ((first | (apply stp0; (exact rfl); (exact rfl)) | (apply stpN0; (exact rfl)) | apply gT | apply condT | ((first | apply bodyQ_d0 | apply bodyQ_d1 | apply bodyQ_d2 | apply bodyQ_d3 | apply bodyQ_d4); (exact .inr rfl); (rw [Try.results12]))); (first | (focus (simp only [go_sem, ↓reduceIte, simprocAttr, t12, hx] <;> rfl)) | exact rfl); (first | (fail_if_success (show okD _ _ _ _ _ _ _ _ _)) | (first | exact okT | exact okN | exact okE rfl)); (first | (fail_if_success (show Bel _ _)) | (focus first | exact .val _ | (simp [oneOf, Bel_iff_tup, Bel_iff_agg, Bel_iff_rsl, Bel_iff_fn, Bel_iff_rptr, Bel_val]; done)))) | refine thenQ_n ?_ | refine thenQ_r ?_ | refine thenQ_e ?_ | refine blockQ_n ?_ | refine blockQ_r ?_ | refine blockQ_e ?_ | (apply blockQ_o; (exact rfl)) | refine Awp.seq ?_ | refine Awp.skip ?_ | refine Awp.block ?_ | refine reg (fun s => s == 12 || s == 14 || s == 22 || s == 31) ?_ | (apply drwE mixed (fun s => s == 12 || s == 14 || s == 22 || s == 31); (kernel_rfl)) | refine fin ?_ | refine Awp.ret ?_ | refine Awp.exit ?_ | ((first | (apply off; (exact rfl)) | apply condF); (first | (focus (simp only [go_sem, ↓reduceIte, simprocAttr, t12, hx] <;> rfl)) | exact rfl)))
    all_goals first | contradiction | skip
    refine ⟨rfl, n, w, S, R, G, g, ⟨by (first | (focus (simp only [go_sem, ↓reduceIte, simprocAttr, t1]; first | done | rfl)) | rfl), by (first | (focus (simp only [go_sem, ↓reduceIte, simprocAttr, t5]; first | done | rfl)) | rfl), by (first | (focus (simp only [go_sem, ↓reduceIte, simprocAttr, t7]; first | done | rfl)) | rfl), by (first | (focus (simp only [go_sem, ↓reduceIte, simprocAttr, t8]; first | done | rfl)) | rfl), by (first | (focus (simp only [go_sem, ↓reduceIte, simprocAttr, t9]; first | done | rfl)) | rfl), by (first | (focus (simp only [go_sem, ↓reduceIte, simprocAttr, t10]; first | done | rfl)) | rfl), by (first | (focus (simp only [go_sem, ↓reduceIte, simprocAttr, t11]; first | done | rfl)) | rfl), by (first | (focus (simp only [go_sem, ↓reduceIte, simprocAttr, t12]; first | done | rfl)) | rfl)⟩, hK, hI, ?_, rfl, rfl, fun e => by cases e⟩
    simp only [Rd.cs, u16v, hd]; exact hx
  | false =>
    rw [hd] at hx
    repeat' (first | refine spD (fun _ => ?_) (fun _ => ?_) | refine spF (fun _ => ?_) (fun _ => ?_) | (apply gT; (exact rfl)) | (apply off; (exact rfl); (exact rfl)) | (apply condT; (exact rfl)) | (apply condF; (exact rfl)) | ((first | (apply stp0; (exact rfl); (exact rfl)) | (apply stpN0; (exact rfl)) | apply gT | apply condT | ((first | apply bodyQ_d0 | apply bodyQ_d1 | apply bodyQ_d2 | apply bodyQ_d3 | apply bodyQ_d4); (exact .inr rfl); (rw [Try.results12]))); (first | (focus (simp only [go_sem, ↓reduceIte, simprocAttr, t5, t7, t12, hx] <;> rfl)) | exact rfl); (first | (fail_if_success (show okD _ _ _ _ _ _ _ _ _)) | (first | exact okT | exact okN | exact okE rfl)); (first | (fail_if_success (show Bel _ _)) | (focus first | exact .val _ | (simp [oneOf, Bel_iff_tup, Bel_iff_agg, Bel_iff_rsl, Bel_iff_fn, Bel_iff_rptr, Bel_val]; done)))) | (apply calTo0; (exact rfl); (iterate 2 (simp only [go_sem, ↓reduceIte, simprocAttr, t5, t7, t12, hx]; rfl)); (first | exact c1); (first | exact okT | exact okN | exact okE rfl)) | refine thenQ_n ?_ | refine thenQ_r ?_ | refine thenQ_e ?_ | refine blockQ_n ?_ | refine blockQ_r ?_ | refine blockQ_e ?_ | (apply blockQ_o; (exact rfl)) | refine Awp.seq ?_ | refine Awp.skip ?_ | refine Awp.block ?_ | refine reg (fun s => s == 12 || s == 14 || s == 22 || s == 31) ?_ | (apply drwE mixed (fun s => s == 12 || s == 14 || s == 22 || s == 31); (kernel_rfl)) | refine fin ?_ | refine Awp.ret ?_ | refine Awp.exit ?_ | ((first | (apply off; (exact rfl)) | apply condF); (first | (focus (simp only [go_sem, ↓reduceIte, simprocAttr, t5, t7, t12, hx] <;> rfl)) | exact rfl)))
    all_goals first | contradiction | skip
    refine cal rfl rfl rfl ?_ (show ACallV Try.prog (.fn (.func 33) []) [.mptr F.b 0 0, .rsl (sps (ackL R)) false] K _ from hA) ?_
    · (first | (focus (simp only [go_sem, ↓reduceIte, simprocAttr, t5]; first | done | rfl)) | rfl)
    rintro v1 K2 ⟨rfl, w2, hP⟩
    have hK2 := hK.prog hP.rep hP.fr
    have hx2 := hP.fr.cells hK.rep hx (by decide) (by decide)
    generalize iv ((S.L.length : Int) - ((keepL (isInB (ackL R)) S.L).length : Int)) = cnt
    repeat' (first | refine spD (fun _ => ?_) (fun _ => ?_) | refine spF (fun _ => ?_) (fun _ => ?_) | (apply gT; (exact rfl)) | (apply off; (exact rfl); (exact rfl)) | (apply condT; (exact rfl)) | (apply condF; (exact rfl)) | ((first | (apply stp0; (exact rfl); (exact rfl)) | (apply stpN0; (exact rfl)) | apply gT | apply condT | ((first | apply bodyQ_d0 | apply bodyQ_d1 | apply bodyQ_d2 | apply bodyQ_d3 | apply bodyQ_d4); (exact .inr rfl); (rw [Try.results12]))); (first | (focus (simp only [go_sem, ↓reduceIte, simprocAttr] <;> rfl)) | exact rfl); (first | (fail_if_success (show okD _ _ _ _ _ _ _ _ _)) | (first | exact okT | exact okN | exact okE rfl)); (first | (fail_if_success (show Bel _ _)) | (focus first | exact .val _ | (simp [oneOf, Bel_iff_tup, Bel_iff_agg, Bel_iff_rsl, Bel_iff_fn, Bel_iff_rptr, Bel_val]; done)))) | refine thenQ_n ?_ | refine thenQ_r ?_ | refine thenQ_e ?_ | refine blockQ_n ?_ | refine blockQ_r ?_ | refine blockQ_e ?_ | (apply blockQ_o; (exact rfl)) | refine Awp.seq ?_ | refine Awp.skip ?_ | refine Awp.block ?_ | refine reg (fun s => s == 12 || s == 14 || s == 22 || s == 31) ?_ | (apply drwE mixed (fun s => s == 12 || s == 14 || s == 22 || s == 31); (kernel_rfl)) | refine fin ?_ | refine Awp.ret ?_ | refine Awp.exit ?_ | ((first | (apply off; (exact rfl)) | apply condF); (first | (focus (simp only [go_sem, ↓reduceIte, simprocAttr] <;> rfl)) | exact rfl)))
    all_goals first | contradiction | skip
    refine ⟨rfl, n, w2, _, R, G, g, ⟨by (first | (focus (simp only [go_sem, ↓reduceIte, simprocAttr, t1]; first | done | rfl)) | rfl), by (first | (focus (simp only [go_sem, ↓reduceIte, simprocAttr, t5]; first | done | rfl)) | rfl), by (first | (focus (simp only [go_sem, ↓reduceIte, simprocAttr, t7]; first | done | rfl)) | rfl), by (first | (focus (simp only [go_sem, ↓reduceIte, simprocAttr, t8]; first | done | rfl)) | rfl), by (first | (focus (simp only [go_sem, ↓reduceIte, simprocAttr, t9]; first | done | rfl)) | rfl), by (first | (focus (simp only [go_sem, ↓reduceIte, simprocAttr, t10]; first | done | rfl)) | rfl), by (first | (focus (simp only [go_sem, ↓reduceIte, simprocAttr, t11]; first | done | rfl)) | rfl), by (first | (focus (simp only [go_sem, ↓reduceIte, simprocAttr, t12]; first | done | rfl)) | rfl)⟩, hK2, hI2, ?_, rfl, rfl, fun _ h => hD h⟩
    simp only [Rd.cs, u16v, hd]; exact hx2

theorem Lk.cell4 {K : Hp} {F : Ft} {w : Rw} {S : Bf} {m : Nat} {R : List Item} {al gn : Nat} {G : Int → Option Item} {g : List Bool} (h : Lk K F w S m R al gn G g) {j : Nat} {c : List (List AV)} (hj : K[j]? = some (.cells c 4)) (hne : j ≠ gn) (d : AObj) : Lk (K.set j d) F w S m R al gn G g := by
  obtain ⟨ka, h1, h2⟩ := h.all
  obtain ⟨kr, h3, h4⟩ := h.ibx.at_
  refine ⟨h.rep.setX (es := []) (t := 0) hj ⟨fun e => ?_, fun e => ?_, fun e => ?_⟩ (fun _ e => by cases e) (fun _ e => by cases e) _, h.ibx.setX (fun e => ?_) _, ⟨ka, ?_, h2⟩, ?_, h.n1, h.n2, h.n3⟩
  · rw [e, h.rep.raw.hr] at hj; cases hj
  · rw [e, h.rep.raw.hs] at hj; cases hj
  · rw [e, h.rep.raw.ht] at hj; cases hj
  · rw [e, h3] at hj; cases hj
  · rw [List.getElem?_set_ne (fun e => by rw [e, h1] at hj; cases hj)]; exact h1
  · rw [List.getElem?_set_ne hne]; exact h.gon

theorem mk1 {R : List Item} {k : Nat} {a : List Bool} {r : Item} (h : ∀ r ∈ R.take k, a[r.id.toNat]? = some true) (hr : R[k]? = some r) (hl : r.id.toNat < a.length) : ∀ q ∈ R.take (k + 1), (a.set r.id.toNat true)[q.id.toNat]? = some true := by
  intro q hq
  rw [List.take_add_one, hr] at hq
  by_cases e : r.id.toNat = q.id.toNat
  · rw [e, List.getElem?_set_self (by omega)]
  · rw [List.getElem?_set_ne e]
    rcases List.mem_append.1 hq with k | k
    · exact h q k
    · simp at k; rw [k] at e; exact absurd rfl e
theorem mk2 {R : List Item} {k : Nat} {a : List Bool} {r : Item} (h : ∀ x : Nat, a[x]? = some true → ∃ r ∈ R.take k, r.id.toNat = x) (hr : R[k]? = some r) : ∀ x : Nat, (a.set r.id.toNat true)[x]? = some true → ∃ r ∈ R.take (k + 1), r.id.toNat = x := by
  intro x hx
  rw [List.take_add_one, hr]
  by_cases e : r.id.toNat = x
  · exact ⟨r, by simp, e⟩
  · rw [List.getElem?_set_ne e] at hx
    obtain ⟨q, hq, e2⟩ := h x hx
    exact ⟨q, by simp [hq], e2⟩

set_option maxRecDepth 8000 in
set_option maxHeartbeats 8000000 in
theorem once4 {K : Hp} {rs : List Rd} {ex : Bool} {F : Ft} {w : Rw} {S : Bf} {m : Nat} {R : List Item} {al gn : Nat} {G : Int → Option Item} {g : List Bool} {n : Nat} {i t : Int} {rb : Nat} {p : Rd} {T : Env} (hT : E12 rs ex F.b m al gn n i rb T) (hK : Lk K F w S m R al gn G g) (hI : Inv G n g S R t)
    (hx : K[rb]? = some (.cells [p.cs] 104)) (hn : n ≤ 84) {av : Nat} {a : List Bool} (t26 : T 26 = .rsl (hds S.L) false) (t27 : T 27 = .rsl (its R) false) (t28 : T 28 = .msl av 0 100) (hav : K[av]? = some (.cells (bls a) 4)) (ha : a.length = 100) (ha0 : ∀ x : Nat, a[x]? ≠ some true) (hne : av ≠ gn) :
    Awp Try.prog 313 none (hdC (tl (tl (tl (tl (tl (tl (tl (tl (tl (tl (tl (inC (hdC (tl (inC (inC (tl (hdC (tl (tl (tl (tl (tl (tl (tl (tl (Try.f12.body.getD .skip)))))))))))))))))))))))))))) T K fun e T' K' => e = .normal ∧ E12 rs ex F.b m al gn n i rb T' ∧ T' 26 = .rsl (hds S.L) false ∧ T' 28 = .msl av 0 100 ∧ Lk K' F w S m R al gn G g ∧ K'[rb]? = some (.cells [p.cs] 104) ∧ ∃ a, K'[av]? = some (.cells (bls a) 4) ∧ a.length = 100 ∧ ∀ x ∈ idsR R, a[x.toNat]? = some true := by
  obtain ⟨t1, t5, t7, t8, t9, t10, t11, t12⟩ := hT
  have hRl : R.length ≤ 84 := by have := hI.rlen; omega
  have hRm : R.length ≤ maxLen := by simp only [maxLen]; omega
  have hpl := its_len R
  have hsrt := List.pairwise_iff_getElem.1 hI.srt
  unfold Try.f12
  simp only [tl, hdC, inC, Option.getD_some]
  repeat' (first | refine spD (fun _ => ?_) (fun _ => ?_) | refine spF (fun _ => ?_) (fun _ => ?_) | (apply gT; (exact rfl)) | (apply off; (exact rfl); (exact rfl)) | (apply condT; (exact rfl)) | (apply condF; (exact rfl)) | ((first | (apply stp0; (exact rfl); (exact rfl)) | (apply stpN0; (exact rfl)) | apply gT | apply condT | ((first | apply bodyQ_d0 | apply bodyQ_d1 | apply bodyQ_d2 | apply bodyQ_d3 | apply bodyQ_d4); (exact .inr rfl); (rw [Try.results12]))); (first | (focus (simp only [go_sem, ↓reduceIte, simprocAttr, t1, t5, t7, t8, t9, t10, t11, t12, t26, t27, t28] <;> rfl)) | exact rfl); (first | (fail_if_success (show okD _ _ _ _ _ _ _ _ _)) | (first | exact okT | exact okN | exact okE rfl)); (first | (fail_if_success (show Bel _ _)) | (focus first | exact .val _ | (simp [oneOf, Bel_iff_tup, Bel_iff_agg, Bel_iff_rsl, Bel_iff_fn, Bel_iff_rptr, Bel_val]; done)))) | refine thenQ_n ?_ | refine thenQ_r ?_ | refine thenQ_e ?_ | refine blockQ_n ?_ | refine blockQ_r ?_ | refine blockQ_e ?_ | (apply blockQ_o; (exact rfl)) | refine Awp.seq ?_ | refine Awp.skip ?_ | refine Awp.block ?_ | refine reg (fun s => s == 12 || s == 14 || s == 22 || s == 31) ?_ | (apply drwE mixed (fun s => s == 12 || s == 14 || s == 22 || s == 31); (kernel_rfl)) | refine fin ?_ | refine Awp.ret ?_ | refine Awp.exit ?_ | ((first | (apply off; (exact rfl)) | apply condF); (first | (focus (simp only [go_sem, ↓reduceIte, simprocAttr, t1, t5, t7, t8, t9, t10, t11, t12, t26, t27, t28] <;> rfl)) | exact rfl)))
  all_goals first | contradiction | skip
  refine Awp.loop (ι := Nat) (fun k T' K' => k ≤ R.length ∧ T' 29 = iv k ∧ E12 rs ex F.b m al gn n i rb T' ∧ T' 26 = .rsl (hds S.L) false ∧ T' 27 = .rsl (its R) false ∧ T' 28 = .msl av 0 100 ∧ Lk K' F w S m R al gn G g ∧ K'[rb]? = some (.cells [p.cs] 104) ∧ ∃ a, K'[av]? = some (.cells (bls a) 4) ∧ a.length = 100 ∧ (∀ r ∈ R.take k, a[r.id.toNat]? = some true) ∧ ∀ x : Nat, a[x]? = some true → ∃ r ∈ R.take k, r.id.toNat = x) (fun k => R.length - k) 0 ?_ ?_
  · exact ⟨Nat.zero_le _, by (first | (focus (simp only [go_sem, ↓reduceIte, simprocAttr]; first | done | rfl)) | rfl), ⟨by (first | (focus (simp only [go_sem, ↓reduceIte, simprocAttr, t1]; first | done | rfl)) | rfl), by (first | (focus (simp only [go_sem, ↓reduceIte, simprocAttr, t5]; first | done | rfl)) | rfl), by (first | (focus (simp only [go_sem, ↓reduceIte, simprocAttr, t7]; first | done | rfl)) | rfl), by (first | (focus (simp only [go_sem, ↓reduceIte, simprocAttr, t8]; first | done | rfl)) | rfl), by (first | (focus (simp only [go_sem, ↓reduceIte, simprocAttr, t9]; first | done | rfl)) | rfl), by (first | (focus (simp only [go_sem, ↓reduceIte, simprocAttr, t10]; first | done | rfl)) | rfl), by (first | (focus (simp only [go_sem, ↓reduceIte, simprocAttr, t11]; first | done | rfl)) | rfl), by (first | (focus (simp only [go_sem, ↓reduceIte, simprocAttr, t12]; first | done | rfl)) | rfl)⟩, by (first | (focus (simp only [go_sem, ↓reduceIte, simprocAttr, t26]; first | done | rfl)) | rfl), by (first | (focus (simp only [go_sem, ↓reduceIte, simprocAttr, t27]; first | done | rfl)) | rfl), by (first | (focus (simp only [go_sem, ↓reduceIte, simprocAttr, t28]; first | done | rfl)) | rfl), hK, hx, a, hav, ha, by simp, fun x h => absurd h (ha0 x)⟩
  clear t1 t5 t7 t8 t9 t10 t11 t12 t26 t27 t28 T hK hx hav ha ha0 K a
  rintro k T K ⟨hk, t29, ⟨t1, t5, t7, t8, t9, t10, t11, t12⟩, t26, t27, t28, hK, hx, a, hav, ha, ha1, ha2⟩
  by_cases hkl : k < R.length
  · obtain ⟨r, hr⟩ := nth hkl
    have hc := its_at hr
    have hrm := List.mem_of_getElem? hr
    have hG := hI.hR r hrm
    obtain ⟨_, hok, hx0, hx1⟩ := hI.g1 _ _ hG
    obtain ⟨ka, hka, hkm⟩ := hK.all
    have hgm : getM ka r.id = some (.agg r.cs) := by rw [hkm.get]; unfold agF; rw [hG]; rfl
    have hlk : lookA Try.prog 40 (.mp al) (iv r.id) false K = some (.agg [iv r.id, iv r.cls, iv r.made, iv r.size, iv r.pk]) := by
      rw [(mT40.look0 hka r.id).2, hgm]; rfl
    have hsu := wsucc hkl hRm
    have nd0 : ¬ r.id < 0 := by omega
    have nd1 : ¬ r.id ≥ (n : Int) := by omega
    have hdn : r.id.toNat < 100 := by omega
    obtain ⟨y, hy⟩ := nth (l := a) (i := r.id.toNat) (by omega)
    have hyf : y = false := by
      cases y with
      | false => rfl
      | true =>
        obtain ⟨r2, h2, e2⟩ := ha2 _ hy
        obtain ⟨j, hj⟩ := List.getElem?_of_mem h2
        have hjk : j < k := by have := (List.getElem?_eq_some_iff.1 hj).1; simp at this; omega
        rw [List.getElem?_take_of_lt hjk] at hj
        obtain ⟨j1, j2⟩ := List.getElem?_eq_some_iff.1 hj
        obtain ⟨k1, k2⟩ := List.getElem?_eq_some_iff.1 hr
        have h3 := hsrt j k j1 k1 hjk
        rw [j2, k2] at h3
        have h4 := (hI.g1 _ _ (hI.hR r2 (List.mem_of_getElem? hj))).2.2.1
        omega
    rw [hyf] at hy
    have hgc := bls_at hy
    have hgs := bls_set a r.id.toNat true
    rcases Nat.eq_zero_or_pos k with hk0 | hk0
    · subst hk0
      simp only [Int.natCast_zero] at t29
      have hlt0 : (0 : Int) < R.length := by omega
      repeat' (first | refine spD (fun _ => ?_) (fun _ => ?_) | refine spF (fun _ => ?_) (fun _ => ?_) | (apply gT; (exact rfl)) | (apply off; (exact rfl); (exact rfl)) | (apply condT; (exact rfl)) | (apply condF; (exact rfl)) | ((first | (apply stp0; (exact rfl); (exact rfl)) | (apply stpN0; (exact rfl)) | apply gT | apply condT | ((first | apply bodyQ_d0 | apply bodyQ_d1 | apply bodyQ_d2 | apply bodyQ_d3 | apply bodyQ_d4); (exact .inr rfl); (rw [Try.results12]))); (first | (focus (simp only [go_sem, ↓reduceIte, simprocAttr, hlt0, t8, t10, t27, t28, t29, hpl, hc, hlk, nd0, nd1, hav, hgc, hgs, hdn, hx0, hsu, Nat.zero_add, beq_self_eq_true, Bool.and_self, Bool.not_true] <;> rfl)) | exact rfl); (first | (fail_if_success (show okD _ _ _ _ _ _ _ _ _)) | (first | exact okT | exact okN | exact okE rfl)); (first | (fail_if_success (show Bel _ _)) | (focus first | exact .val _ | (simp [oneOf, Bel_iff_tup, Bel_iff_agg, Bel_iff_rsl, Bel_iff_fn, Bel_iff_rptr, Bel_val]; done)))) | refine thenQ_n ?_ | refine thenQ_r ?_ | refine thenQ_e ?_ | refine blockQ_n ?_ | refine blockQ_r ?_ | refine blockQ_e ?_ | (apply blockQ_o; (exact rfl)) | refine Awp.seq ?_ | refine Awp.skip ?_ | refine Awp.block ?_ | refine reg (fun s => s == 12 || s == 14 || s == 22 || s == 31) ?_ | (apply drwE mixed (fun s => s == 12 || s == 14 || s == 22 || s == 31); (kernel_rfl)) | refine fin ?_ | refine Awp.ret ?_ | refine Awp.exit ?_ | ((first | (apply off; (exact rfl)) | apply condF); (first | (focus (simp only [go_sem, ↓reduceIte, simprocAttr, hlt0, t8, t10, t27, t28, t29, hpl, hc, hlk, nd0, nd1, hav, hgc, hgs, hdn, hx0, hsu, Nat.zero_add, beq_self_eq_true, Bool.and_self, Bool.not_true] <;> rfl)) | exact rfl)))
      all_goals first | contradiction | skip
      refine ⟨0 + 1, ⟨hkl, by (first | (focus (simp only [go_sem, ↓reduceIte, simprocAttr, hsu]; first | done | rfl)) | rfl), ⟨by (first | (focus (simp only [go_sem, ↓reduceIte, simprocAttr, t1]; first | done | rfl)) | rfl), by (first | (focus (simp only [go_sem, ↓reduceIte, simprocAttr, t5]; first | done | rfl)) | rfl), by (first | (focus (simp only [go_sem, ↓reduceIte, simprocAttr, t7]; first | done | rfl)) | rfl), by (first | (focus (simp only [go_sem, ↓reduceIte, simprocAttr, t8]; first | done | rfl)) | rfl), by (first | (focus (simp only [go_sem, ↓reduceIte, simprocAttr, t9]; first | done | rfl)) | rfl), by (first | (focus (simp only [go_sem, ↓reduceIte, simprocAttr, t10]; first | done | rfl)) | rfl), by (first | (focus (simp only [go_sem, ↓reduceIte, simprocAttr, t11]; first | done | rfl)) | rfl), by (first | (focus (simp only [go_sem, ↓reduceIte, simprocAttr, t12]; first | done | rfl)) | rfl)⟩, by (first | (focus (simp only [go_sem, ↓reduceIte, simprocAttr, t26]; first | done | rfl)) | rfl), by (first | (focus (simp only [go_sem, ↓reduceIte, simprocAttr, t27]; first | done | rfl)) | rfl), by (first | (focus (simp only [go_sem, ↓reduceIte, simprocAttr, t28]; first | done | rfl)) | rfl), hK.cell4 hav hne _, ?_, a.set r.id.toNat true, (heldS hav).1 _, by rw [List.length_set]; exact ha, fun q hq => ?_, fun x h => ?_⟩, Nat.sub_lt_sub_left hkl (Nat.lt_succ_self _)⟩
      · rw [List.getElem?_set_ne (fun e => by rw [e, hx] at hav; exact absurd (AObj.cells.inj (Option.some.inj hav)).2 (by decide))]; exact hx
      · exact mk1 ha1 hr (by omega) q hq
      · exact mk2 ha2 hr x h
    · obtain ⟨j, hj⟩ : ∃ j, k = j + 1 := ⟨k - 1, by omega⟩
      obtain ⟨r2, hr2⟩ := nth (l := R) (i := j) (by omega)
      have hc2 := its_at hr2
      have wk : IntKind.i64.wrap ((k : Int) - 1) = (j : Int) := by rw [w64 (by omega) (by omega)]; omega
      have hgt : (k : Int) > 0 := by omega
      have hle : ¬ r.id ≤ r2.id := by
        obtain ⟨j1, j2⟩ := List.getElem?_eq_some_iff.1 hr2
        obtain ⟨k1, k2⟩ := List.getElem?_eq_some_iff.1 hr
        have h3 := hsrt j k j1 k1 (by omega)
        rw [j2, k2] at h3
        omega
      repeat' (first | refine spD (fun _ => ?_) (fun _ => ?_) | refine spF (fun _ => ?_) (fun _ => ?_) | (apply gT; (exact rfl)) | (apply off; (exact rfl); (exact rfl)) | (apply condT; (exact rfl)) | (apply condF; (exact rfl)) | ((first | (apply stp0; (exact rfl); (exact rfl)) | (apply stpN0; (exact rfl)) | apply gT | apply condT | ((first | apply bodyQ_d0 | apply bodyQ_d1 | apply bodyQ_d2 | apply bodyQ_d3 | apply bodyQ_d4); (exact .inr rfl); (rw [Try.results12]))); (first | (focus (simp only [go_sem, ↓reduceIte, simprocAttr, Int.ofNat_lt.2 hkl, t8, t10, t27, t28, t29, hpl, hc, hc2, wk, hgt, hle, hlk, nd0, nd1, hav, hgc, hgs, hdn, hx0, hsu, Nat.zero_add, beq_self_eq_true, Bool.and_self, Bool.not_true] <;> rfl)) | exact rfl); (first | (fail_if_success (show okD _ _ _ _ _ _ _ _ _)) | (first | exact okT | exact okN | exact okE rfl)); (first | (fail_if_success (show Bel _ _)) | (focus first | exact .val _ | (simp [oneOf, Bel_iff_tup, Bel_iff_agg, Bel_iff_rsl, Bel_iff_fn, Bel_iff_rptr, Bel_val]; done)))) | refine thenQ_n ?_ | refine thenQ_r ?_ | refine thenQ_e ?_ | refine blockQ_n ?_ | refine blockQ_r ?_ | refine blockQ_e ?_ | (apply blockQ_o; (exact rfl)) | refine Awp.seq ?_ | refine Awp.skip ?_ | refine Awp.block ?_ | refine reg (fun s => s == 12 || s == 14 || s == 22 || s == 31) ?_ | (apply drwE mixed (fun s => s == 12 || s == 14 || s == 22 || s == 31); (kernel_rfl)) | refine fin ?_ | refine Awp.ret ?_ | refine Awp.exit ?_ | ((first | (apply off; (exact rfl)) | apply condF); (first | (focus (simp only [go_sem, ↓reduceIte, simprocAttr, Int.ofNat_lt.2 hkl, t8, t10, t27, t28, t29, hpl, hc, hc2, wk, hgt, hle, hlk, nd0, nd1, hav, hgc, hgs, hdn, hx0, hsu, Nat.zero_add, beq_self_eq_true, Bool.and_self, Bool.not_true] <;> rfl)) | exact rfl)))
      all_goals first | contradiction | skip
      refine ⟨k + 1, ⟨hkl, by (first | (focus (simp only [go_sem, ↓reduceIte, simprocAttr, hsu]; first | done | rfl)) | rfl), ⟨by (first | (focus (simp only [go_sem, ↓reduceIte, simprocAttr, t1]; first | done | rfl)) | rfl), by (first | (focus (simp only [go_sem, ↓reduceIte, simprocAttr, t5]; first | done | rfl)) | rfl), by (first | (focus (simp only [go_sem, ↓reduceIte, simprocAttr, t7]; first | done | rfl)) | rfl), by (first | (focus (simp only [go_sem, ↓reduceIte, simprocAttr, t8]; first | done | rfl)) | rfl), by (first | (focus (simp only [go_sem, ↓reduceIte, simprocAttr, t9]; first | done | rfl)) | rfl), by (first | (focus (simp only [go_sem, ↓reduceIte, simprocAttr, t10]; first | done | rfl)) | rfl), by (first | (focus (simp only [go_sem, ↓reduceIte, simprocAttr, t11]; first | done | rfl)) | rfl), by (first | (focus (simp only [go_sem, ↓reduceIte, simprocAttr, t12]; first | done | rfl)) | rfl)⟩, by (first | (focus (simp only [go_sem, ↓reduceIte, simprocAttr, t26]; first | done | rfl)) | rfl), by (first | (focus (simp only [go_sem, ↓reduceIte, simprocAttr, t27]; first | done | rfl)) | rfl), by (first | (focus (simp only [go_sem, ↓reduceIte, simprocAttr, t28]; first | done | rfl)) | rfl), hK.cell4 hav hne _, ?_, a.set r.id.toNat true, (heldS hav).1 _, by rw [List.length_set]; exact ha, fun q hq => ?_, fun x h => ?_⟩, Nat.sub_lt_sub_left hkl (Nat.lt_succ_self _)⟩
      · rw [List.getElem?_set_ne (fun e => by rw [e, hx] at hav; exact absurd (AObj.cells.inj (Option.some.inj hav)).2 (by decide))]; exact hx
      · exact mk1 ha1 hr (by omega) q hq
      · exact mk2 ha2 hr x h
  · have hke : k = R.length := Nat.le_antisymm hk (Nat.not_lt.1 hkl)
    subst hke
    rw [List.take_length] at ha1
    repeat' (first | refine spD (fun _ => ?_) (fun _ => ?_) | refine spF (fun _ => ?_) (fun _ => ?_) | (apply gT; (exact rfl)) | (apply off; (exact rfl); (exact rfl)) | (apply condT; (exact rfl)) | (apply condF; (exact rfl)) | ((first | (apply stp0; (exact rfl); (exact rfl)) | (apply stpN0; (exact rfl)) | apply gT | apply condT | ((first | apply bodyQ_d0 | apply bodyQ_d1 | apply bodyQ_d2 | apply bodyQ_d3 | apply bodyQ_d4); (exact .inr rfl); (rw [Try.results12]))); (first | (focus (simp only [go_sem, ↓reduceIte, simprocAttr, Int.lt_irrefl, t27, t29, hpl] <;> rfl)) | exact rfl); (first | (fail_if_success (show okD _ _ _ _ _ _ _ _ _)) | (first | exact okT | exact okN | exact okE rfl)); (first | (fail_if_success (show Bel _ _)) | (focus first | exact .val _ | (simp [oneOf, Bel_iff_tup, Bel_iff_agg, Bel_iff_rsl, Bel_iff_fn, Bel_iff_rptr, Bel_val]; done)))) | refine thenQ_n ?_ | refine thenQ_r ?_ | refine thenQ_e ?_ | refine blockQ_n ?_ | refine blockQ_r ?_ | refine blockQ_e ?_ | (apply blockQ_o; (exact rfl)) | refine Awp.seq ?_ | refine Awp.skip ?_ | refine Awp.block ?_ | refine reg (fun s => s == 12 || s == 14 || s == 22 || s == 31) ?_ | (apply drwE mixed (fun s => s == 12 || s == 14 || s == 22 || s == 31); (kernel_rfl)) | refine fin ?_ | refine Awp.ret ?_ | refine Awp.exit ?_ | ((first | (apply off; (exact rfl)) | apply condF); (first | (focus (simp only [go_sem, ↓reduceIte, simprocAttr, Int.lt_irrefl, t27, t29, hpl] <;> rfl)) | exact rfl)))
    all_goals first | contradiction | skip
    exact ⟨rfl, ⟨by (first | (focus (simp only [go_sem, ↓reduceIte, simprocAttr, t1]; first | done | rfl)) | rfl), by (first | (focus (simp only [go_sem, ↓reduceIte, simprocAttr, t5]; first | done | rfl)) | rfl), by (first | (focus (simp only [go_sem, ↓reduceIte, simprocAttr, t7]; first | done | rfl)) | rfl), by (first | (focus (simp only [go_sem, ↓reduceIte, simprocAttr, t8]; first | done | rfl)) | rfl), by (first | (focus (simp only [go_sem, ↓reduceIte, simprocAttr, t9]; first | done | rfl)) | rfl), by (first | (focus (simp only [go_sem, ↓reduceIte, simprocAttr, t10]; first | done | rfl)) | rfl), by (first | (focus (simp only [go_sem, ↓reduceIte, simprocAttr, t11]; first | done | rfl)) | rfl), by (first | (focus (simp only [go_sem, ↓reduceIte, simprocAttr, t12]; first | done | rfl)) | rfl)⟩, by (first | (focus (simp only [go_sem, ↓reduceIte, simprocAttr, t26]; first | done | rfl)) | rfl), by (first | (focus (simp only [go_sem, ↓reduceIte, simprocAttr, t28]; first | done | rfl)) | rfl), hK, hx, a, hav, ha, fun x h => by obtain ⟨r, hr, rfl⟩ := List.mem_map.1 h; exact ha1 r hr⟩

end Go.Proofs.Ytlhchnnfgppneaa.Ab
namespace Go.Proofs.Ytlhchnnfgppneaa.Ab
open Go Go.RowKit Go.Proofs
set_option linter.unusedSimpArgs false
set_option linter.unusedVariables false
attribute [local irreducible] Awp wpO thenQ blockQ bodyQ ACalls stepA

set_option maxRecDepth 8000 in
set_option maxHeartbeats 8000000 in
theorem once5 {K : Hp} {rs : List Rd} {ex : Bool} {F : Ft} {w : Rw} {S : Bf} {m : Nat} {R : List Item} {al gn : Nat} {G : Int → Option Item} {g : List Bool} {n : Nat} {i t : Int} {rb : Nat} {p : Rd} {T : Env} (hT : E12 rs ex F.b m al gn n i rb T) (hK : Lk K F w S m R al gn G g) (hI : Inv G n g S R t)
    (hx : K[rb]? = some (.cells [p.cs] 104)) (hn : n ≤ 84) {av : Nat} {a : List Bool} (t26 : T 26 = .rsl (hds S.L) false) (t28 : T 28 = .msl av 0 100) (hav : K[av]? = some (.cells (bls a) 4)) (ha : a.length = 100) (ha1 : ∀ x ∈ idsR R, a[x.toNat]? = some true) :
    Awp Try.prog 313 none (tl (tl (tl (tl (tl (tl (tl (tl (tl (tl (tl (tl (inC (hdC (tl (inC (inC (tl (hdC (tl (tl (tl (tl (tl (tl (tl (tl (Try.f12.body.getD .skip)))))))))))))))))))))))))))) T K (Q12 rs ex F m al gn i rb p t fun n' S' R' _ _ => n' = n ∧ S' = S) := by
  obtain ⟨t1, t5, t7, t8, t9, t10, t11, t12⟩ := hT
  have hSl : S.L.length ≤ maxLen := by have := hI.len; simp only [maxLen]; omega
  have hcov := hI.cov
  have hgl := hI.gl
  unfold Try.f12
  simp only [tl, hdC, inC, Option.getD_some]
  repeat' (first | refine spD (fun _ => ?_) (fun _ => ?_) | refine spF (fun _ => ?_) (fun _ => ?_) | (apply gT; (exact rfl)) | (apply off; (exact rfl); (exact rfl)) | (apply condT; (exact rfl)) | (apply condF; (exact rfl)) | ((first | (apply stp0; (exact rfl); (exact rfl)) | (apply stpN0; (exact rfl)) | apply gT | apply condT | ((first | apply bodyQ_d0 | apply bodyQ_d1 | apply bodyQ_d2 | apply bodyQ_d3 | apply bodyQ_d4); (exact .inr rfl); (rw [Try.results12]))); (first | (focus (simp only [go_sem, ↓reduceIte, simprocAttr, t1, t5, t7, t8, t9, t10, t11, t12, t26, t28] <;> rfl)) | exact rfl); (first | (fail_if_success (show okD _ _ _ _ _ _ _ _ _)) | (first | exact okT | exact okN | exact okE rfl)); (first | (fail_if_success (show Bel _ _)) | (focus first | exact .val _ | (simp [oneOf, Bel_iff_tup, Bel_iff_agg, Bel_iff_rsl, Bel_iff_fn, Bel_iff_rptr, Bel_val]; done)))) | refine thenQ_n ?_ | refine thenQ_r ?_ | refine thenQ_e ?_ | refine blockQ_n ?_ | refine blockQ_r ?_ | refine blockQ_e ?_ | (apply blockQ_o; (exact rfl)) | refine Awp.seq ?_ | refine Awp.skip ?_ | refine Awp.block ?_ | refine reg (fun s => s == 12 || s == 14 || s == 22 || s == 31) ?_ | (apply drwE mixed (fun s => s == 12 || s == 14 || s == 22 || s == 31); (kernel_rfl)) | refine fin ?_ | refine Awp.ret ?_ | refine Awp.exit ?_ | ((first | (apply off; (exact rfl)) | apply condF); (first | (focus (simp only [go_sem, ↓reduceIte, simprocAttr, t1, t5, t7, t8, t9, t10, t11, t12, t26, t28] <;> rfl)) | exact rfl)))
  all_goals first | contradiction | skip
  refine Awp.loop (ι := Nat) (fun k T' K' => k ≤ n ∧ T' 30 = iv k ∧ E12 rs ex F.b m al gn n i rb T' ∧ T' 26 = .rsl (hds S.L) false ∧ T' 28 = .msl av 0 100 ∧ Lk K' F w S m R al gn G g ∧ K'[rb]? = some (.cells [p.cs] 104) ∧ K'[av]? = some (.cells (bls a) 4)) (fun k => n - k) 0 ?_ ?_
  · exact ⟨Nat.zero_le _, by (first | (focus (simp only [go_sem, ↓reduceIte, simprocAttr]; first | done | rfl)) | rfl), ⟨by (first | (focus (simp only [go_sem, ↓reduceIte, simprocAttr, t1]; first | done | rfl)) | rfl), by (first | (focus (simp only [go_sem, ↓reduceIte, simprocAttr, t5]; first | done | rfl)) | rfl), by (first | (focus (simp only [go_sem, ↓reduceIte, simprocAttr, t7]; first | done | rfl)) | rfl), by (first | (focus (simp only [go_sem, ↓reduceIte, simprocAttr, t8]; first | done | rfl)) | rfl), by (first | (focus (simp only [go_sem, ↓reduceIte, simprocAttr, t9]; first | done | rfl)) | rfl), by (first | (focus (simp only [go_sem, ↓reduceIte, simprocAttr, t10]; first | done | rfl)) | rfl), by (first | (focus (simp only [go_sem, ↓reduceIte, simprocAttr, t11]; first | done | rfl)) | rfl), by (first | (focus (simp only [go_sem, ↓reduceIte, simprocAttr, t12]; first | done | rfl)) | rfl)⟩, by (first | (focus (simp only [go_sem, ↓reduceIte, simprocAttr, t26]; first | done | rfl)) | rfl), by (first | (focus (simp only [go_sem, ↓reduceIte, simprocAttr, t28]; first | done | rfl)) | rfl), hK, hx, hav⟩
  clear t1 t5 t7 t8 t9 t10 t11 t12 t26 t28 T hK hx hav K
  rintro k T K ⟨hk, t30, ⟨t1, t5, t7, t8, t9, t10, t11, t12⟩, t26, t28, hK, hx, hav⟩
  by_cases hkl : k < n
  · obtain ⟨ka, hka, hkm⟩ := hK.all
    have hlk := (mT40.look0 hka (k : Int)).1
    have hget : getM ka (k : Int) = agF G k := hkm.get _
    have hsu : IntKind.i64.wrap ((k : Int) + 1) = ((k + 1 : Nat) : Int) := wsucc hkl (by simp only [maxLen]; omega)
    have hgn := hK.gon
    obtain ⟨y, hy⟩ := nth (l := a) (i := k) (by omega)
    obtain ⟨z, hz⟩ := nth (l := g) (i := k) (by omega)
    have hyc := bls_at hy
    have hzc := bls_at hz
    have hk100 : k < 100 := by omega
    have hfi := fun H => find_ok H S.L false hSl (k : Int)
    cases hG : G k with
    | none =>
      have e1 : getM ka (k : Int) = none := by rw [hget]; unfold agF; rw [hG]; rfl
      rw [e1] at hlk
      simp only [Option.getD_none, Option.isSome_none, recZ] at hlk
      have hG1 := (Grow.refl K).app [.cells [[iv 0, iv 0, iv 0, iv 0, iv 0]] 23]
      repeat' (first | refine spD (fun _ => ?_) (fun _ => ?_) | refine spF (fun _ => ?_) (fun _ => ?_) | (apply gT; (exact rfl)) | (apply off; (exact rfl); (exact rfl)) | (apply condT; (exact rfl)) | (apply condF; (exact rfl)) | ((first | (apply stp0; (exact rfl); (exact rfl)) | (apply stpN0; (exact rfl)) | apply gT | apply condT | ((first | apply bodyQ_d0 | apply bodyQ_d1 | apply bodyQ_d2 | apply bodyQ_d3 | apply bodyQ_d4); (exact .inr rfl); (rw [Try.results12]))); (first | (focus (simp only [go_sem, ↓reduceIte, simprocAttr, Int.ofNat_lt.2 hkl, t8, t10, t30, hlk, hsu] <;> rfl)) | exact rfl); (first | (fail_if_success (show okD _ _ _ _ _ _ _ _ _)) | (first | exact okT | exact okN | exact okE rfl)); (first | (fail_if_success (show Bel _ _)) | (focus first | exact .val _ | (simp [oneOf, Bel_iff_tup, Bel_iff_agg, Bel_iff_rsl, Bel_iff_fn, Bel_iff_rptr, Bel_val]; done)))) | refine thenQ_n ?_ | refine thenQ_r ?_ | refine thenQ_e ?_ | refine blockQ_n ?_ | refine blockQ_r ?_ | refine blockQ_e ?_ | (apply blockQ_o; (exact rfl)) | refine Awp.seq ?_ | refine Awp.skip ?_ | refine Awp.block ?_ | refine reg (fun s => s == 12 || s == 14 || s == 22 || s == 31) ?_ | (apply drwE mixed (fun s => s == 12 || s == 14 || s == 22 || s == 31); (kernel_rfl)) | refine fin ?_ | refine Awp.ret ?_ | refine Awp.exit ?_ | ((first | (apply off; (exact rfl)) | apply condF); (first | (focus (simp only [go_sem, ↓reduceIte, simprocAttr, Int.ofNat_lt.2 hkl, t8, t10, t30, hlk, hsu] <;> rfl)) | exact rfl)))
      all_goals first | contradiction | skip
      exact ⟨k + 1, ⟨hkl, by (first | (focus (simp only [go_sem, ↓reduceIte, simprocAttr, hsu]; first | done | rfl)) | rfl), ⟨by (first | (focus (simp only [go_sem, ↓reduceIte, simprocAttr, t1]; first | done | rfl)) | rfl), by (first | (focus (simp only [go_sem, ↓reduceIte, simprocAttr, t5]; first | done | rfl)) | rfl), by (first | (focus (simp only [go_sem, ↓reduceIte, simprocAttr, t7]; first | done | rfl)) | rfl), by (first | (focus (simp only [go_sem, ↓reduceIte, simprocAttr, t8]; first | done | rfl)) | rfl), by (first | (focus (simp only [go_sem, ↓reduceIte, simprocAttr, t9]; first | done | rfl)) | rfl), by (first | (focus (simp only [go_sem, ↓reduceIte, simprocAttr, t10]; first | done | rfl)) | rfl), by (first | (focus (simp only [go_sem, ↓reduceIte, simprocAttr, t11]; first | done | rfl)) | rfl), by (first | (focus (simp only [go_sem, ↓reduceIte, simprocAttr, t12]; first | done | rfl)) | rfl)⟩, by (first | (focus (simp only [go_sem, ↓reduceIte, simprocAttr, t26]; first | done | rfl)) | rfl), by (first | (focus (simp only [go_sem, ↓reduceIte, simprocAttr, t28]; first | done | rfl)) | rfl), hK.grow hG1, hG1.get hx, hG1.get hav⟩, Nat.sub_lt_sub_left hkl (Nat.lt_succ_self k)⟩
    | some r =>
      have e1 : getM ka (k : Int) = some (.agg [iv r.id, iv r.cls, iv r.made, iv r.size, iv r.pk]) := by rw [hget]; unfold agF; rw [hG]; rfl
      rw [e1] at hlk
      simp only [Option.getD_some, Option.isSome_some] at hlk
      have hG1 := (Grow.refl K).app [.cells [[iv r.id, iv r.cls, iv r.made, iv r.size, iv r.pk]] 23]
      have hav1 := hG1.get hav
      have hgn1 := hG1.get hgn
      have hc := hcov k r hG
      by_cases hin : (k : Int) ∈ idsL S.L
      · have hf0 : ¬ fnd k S.L 0 < 0 := by have := fnd_ge.2 hin; omega
        repeat' (first | refine spD (fun _ => ?_) (fun _ => ?_) | refine spF (fun _ => ?_) (fun _ => ?_) | (apply gT; (exact rfl)) | (apply off; (exact rfl); (exact rfl)) | (apply condT; (exact rfl)) | (apply condF; (exact rfl)) | ((first | (apply stp0; (exact rfl); (exact rfl)) | (apply stpN0; (exact rfl)) | apply gT | apply condT | ((first | apply bodyQ_d0 | apply bodyQ_d1 | apply bodyQ_d2 | apply bodyQ_d3 | apply bodyQ_d4); (exact .inr rfl); (rw [Try.results12]))); (first | (focus (simp only [go_sem, ↓reduceIte, simprocAttr, Int.ofNat_lt.2 hkl, t8, t10, t26, t30, hlk, hsu, hf0] <;> rfl)) | exact rfl); (first | (fail_if_success (show okD _ _ _ _ _ _ _ _ _)) | (first | exact okT | exact okN | exact okE rfl)); (first | (fail_if_success (show Bel _ _)) | (focus first | exact .val _ | (simp [oneOf, Bel_iff_tup, Bel_iff_agg, Bel_iff_rsl, Bel_iff_fn, Bel_iff_rptr, Bel_val]; done)))) | (apply calTo0; (exact rfl); (iterate 2 (simp only [go_sem, ↓reduceIte, simprocAttr, Int.ofNat_lt.2 hkl, t8, t10, t26, t30, hlk, hsu, hf0]; rfl)); (first | exact hfi _); (first | exact okT | exact okN | exact okE rfl)) | refine thenQ_n ?_ | refine thenQ_r ?_ | refine thenQ_e ?_ | refine blockQ_n ?_ | refine blockQ_r ?_ | refine blockQ_e ?_ | (apply blockQ_o; (exact rfl)) | refine Awp.seq ?_ | refine Awp.skip ?_ | refine Awp.block ?_ | refine reg (fun s => s == 12 || s == 14 || s == 22 || s == 31) ?_ | (apply drwE mixed (fun s => s == 12 || s == 14 || s == 22 || s == 31); (kernel_rfl)) | refine fin ?_ | refine Awp.ret ?_ | refine Awp.exit ?_ | ((first | (apply off; (exact rfl)) | apply condF); (first | (focus (simp only [go_sem, ↓reduceIte, simprocAttr, Int.ofNat_lt.2 hkl, t8, t10, t26, t30, hlk, hsu, hf0] <;> rfl)) | exact rfl)))
        all_goals first | contradiction | skip
        exact ⟨k + 1, ⟨hkl, by (first | (focus (simp only [go_sem, ↓reduceIte, simprocAttr, hsu]; first | done | rfl)) | rfl), ⟨by (first | (focus (simp only [go_sem, ↓reduceIte, simprocAttr, t1]; first | done | rfl)) | rfl), by (first | (focus (simp only [go_sem, ↓reduceIte, simprocAttr, t5]; first | done | rfl)) | rfl), by (first | (focus (simp only [go_sem, ↓reduceIte, simprocAttr, t7]; first | done | rfl)) | rfl), by (first | (focus (simp only [go_sem, ↓reduceIte, simprocAttr, t8]; first | done | rfl)) | rfl), by (first | (focus (simp only [go_sem, ↓reduceIte, simprocAttr, t9]; first | done | rfl)) | rfl), by (first | (focus (simp only [go_sem, ↓reduceIte, simprocAttr, t10]; first | done | rfl)) | rfl), by (first | (focus (simp only [go_sem, ↓reduceIte, simprocAttr, t11]; first | done | rfl)) | rfl), by (first | (focus (simp only [go_sem, ↓reduceIte, simprocAttr, t12]; first | done | rfl)) | rfl)⟩, by (first | (focus (simp only [go_sem, ↓reduceIte, simprocAttr, t26]; first | done | rfl)) | rfl), by (first | (focus (simp only [go_sem, ↓reduceIte, simprocAttr, t28]; first | done | rfl)) | rfl), hK.grow hG1, hG1.get hx, hav1⟩, Nat.sub_lt_sub_left hkl (Nat.lt_succ_self k)⟩
      · have hf0 : fnd k S.L 0 < 0 := by rw [fnd_none hin]; decide
        have hyz : y = true ∨ (y = false ∧ z = true) := by
          cases y with
          | true => exact .inl rfl
          | false =>
            right; refine ⟨rfl, ?_⟩
            rcases hc with c | c | c
            · exact absurd c hin
            · have h1 := ha1 _ c; rw [Int.toNat_natCast, hy] at h1; cases h1
            · rw [Int.toNat_natCast, hz] at c; exact Option.some.inj c
        have hk0 : (0 : Int) ≤ k := by omega
        rcases hyz with rfl | ⟨rfl, rfl⟩
        · repeat' (first | refine spD (fun _ => ?_) (fun _ => ?_) | refine spF (fun _ => ?_) (fun _ => ?_) | (apply gT; (exact rfl)) | (apply off; (exact rfl); (exact rfl)) | (apply condT; (exact rfl)) | (apply condF; (exact rfl)) | ((first | (apply stp0; (exact rfl); (exact rfl)) | (apply stpN0; (exact rfl)) | apply gT | apply condT | ((first | apply bodyQ_d0 | apply bodyQ_d1 | apply bodyQ_d2 | apply bodyQ_d3 | apply bodyQ_d4); (exact .inr rfl); (rw [Try.results12]))); (first | (focus (simp only [go_sem, ↓reduceIte, simprocAttr, Int.ofNat_lt.2 hkl, t8, t10, t26, t28, t30, hlk, hsu, hf0, hav1, hyc, hk100, hk0, Nat.zero_add, Int.toNat_natCast] <;> rfl)) | exact rfl); (first | (fail_if_success (show okD _ _ _ _ _ _ _ _ _)) | (first | exact okT | exact okN | exact okE rfl)); (first | (fail_if_success (show Bel _ _)) | (focus first | exact .val _ | (simp [oneOf, Bel_iff_tup, Bel_iff_agg, Bel_iff_rsl, Bel_iff_fn, Bel_iff_rptr, Bel_val]; done)))) | (apply calTo0; (exact rfl); (iterate 2 (simp only [go_sem, ↓reduceIte, simprocAttr, Int.ofNat_lt.2 hkl, t8, t10, t26, t28, t30, hlk, hsu, hf0, hav1, hyc, hk100, hk0, Nat.zero_add, Int.toNat_natCast]; rfl)); (first | exact hfi _); (first | exact okT | exact okN | exact okE rfl)) | refine thenQ_n ?_ | refine thenQ_r ?_ | refine thenQ_e ?_ | refine blockQ_n ?_ | refine blockQ_r ?_ | refine blockQ_e ?_ | (apply blockQ_o; (exact rfl)) | refine Awp.seq ?_ | refine Awp.skip ?_ | refine Awp.block ?_ | refine reg (fun s => s == 12 || s == 14 || s == 22 || s == 31) ?_ | (apply drwE mixed (fun s => s == 12 || s == 14 || s == 22 || s == 31); (kernel_rfl)) | refine fin ?_ | refine Awp.ret ?_ | refine Awp.exit ?_ | ((first | (apply off; (exact rfl)) | apply condF); (first | (focus (simp only [go_sem, ↓reduceIte, simprocAttr, Int.ofNat_lt.2 hkl, t8, t10, t26, t28, t30, hlk, hsu, hf0, hav1, hyc, hk100, hk0, Nat.zero_add, Int.toNat_natCast] <;> rfl)) | exact rfl)))
          all_goals first | contradiction | skip
          exact ⟨k + 1, ⟨hkl, by (first | (focus (simp only [go_sem, ↓reduceIte, simprocAttr, hsu]; first | done | rfl)) | rfl), ⟨by (first | (focus (simp only [go_sem, ↓reduceIte, simprocAttr, t1]; first | done | rfl)) | rfl), by (first | (focus (simp only [go_sem, ↓reduceIte, simprocAttr, t5]; first | done | rfl)) | rfl), by (first | (focus (simp only [go_sem, ↓reduceIte, simprocAttr, t7]; first | done | rfl)) | rfl), by (first | (focus (simp only [go_sem, ↓reduceIte, simprocAttr, t8]; first | done | rfl)) | rfl), by (first | (focus (simp only [go_sem, ↓reduceIte, simprocAttr, t9]; first | done | rfl)) | rfl), by (first | (focus (simp only [go_sem, ↓reduceIte, simprocAttr, t10]; first | done | rfl)) | rfl), by (first | (focus (simp only [go_sem, ↓reduceIte, simprocAttr, t11]; first | done | rfl)) | rfl), by (first | (focus (simp only [go_sem, ↓reduceIte, simprocAttr, t12]; first | done | rfl)) | rfl)⟩, by (first | (focus (simp only [go_sem, ↓reduceIte, simprocAttr, t26]; first | done | rfl)) | rfl), by (first | (focus (simp only [go_sem, ↓reduceIte, simprocAttr, t28]; first | done | rfl)) | rfl), hK.grow hG1, hG1.get hx, hav1⟩, Nat.sub_lt_sub_left hkl (Nat.lt_succ_self k)⟩
        · repeat' (first | refine spD (fun _ => ?_) (fun _ => ?_) | refine spF (fun _ => ?_) (fun _ => ?_) | (apply gT; (exact rfl)) | (apply off; (exact rfl); (exact rfl)) | (apply condT; (exact rfl)) | (apply condF; (exact rfl)) | ((first | (apply stp0; (exact rfl); (exact rfl)) | (apply stpN0; (exact rfl)) | apply gT | apply condT | ((first | apply bodyQ_d0 | apply bodyQ_d1 | apply bodyQ_d2 | apply bodyQ_d3 | apply bodyQ_d4); (exact .inr rfl); (rw [Try.results12]))); (first | (focus (simp only [go_sem, ↓reduceIte, simprocAttr, Int.ofNat_lt.2 hkl, t8, t9, t10, t26, t28, t30, hlk, hsu, hf0, hav1, hgn1, hyc, hzc, hk100, hk0, Nat.zero_add, Int.toNat_natCast] <;> rfl)) | exact rfl); (first | (fail_if_success (show okD _ _ _ _ _ _ _ _ _)) | (first | exact okT | exact okN | exact okE rfl)); (first | (fail_if_success (show Bel _ _)) | (focus first | exact .val _ | (simp [oneOf, Bel_iff_tup, Bel_iff_agg, Bel_iff_rsl, Bel_iff_fn, Bel_iff_rptr, Bel_val]; done)))) | (apply calTo0; (exact rfl); (iterate 2 (simp only [go_sem, ↓reduceIte, simprocAttr, Int.ofNat_lt.2 hkl, t8, t9, t10, t26, t28, t30, hlk, hsu, hf0, hav1, hgn1, hyc, hzc, hk100, hk0, Nat.zero_add, Int.toNat_natCast]; rfl)); (first | exact hfi _); (first | exact okT | exact okN | exact okE rfl)) | refine thenQ_n ?_ | refine thenQ_r ?_ | refine thenQ_e ?_ | refine blockQ_n ?_ | refine blockQ_r ?_ | refine blockQ_e ?_ | (apply blockQ_o; (exact rfl)) | refine Awp.seq ?_ | refine Awp.skip ?_ | refine Awp.block ?_ | refine reg (fun s => s == 12 || s == 14 || s == 22 || s == 31) ?_ | (apply drwE mixed (fun s => s == 12 || s == 14 || s == 22 || s == 31); (kernel_rfl)) | refine fin ?_ | refine Awp.ret ?_ | refine Awp.exit ?_ | ((first | (apply off; (exact rfl)) | apply condF); (first | (focus (simp only [go_sem, ↓reduceIte, simprocAttr, Int.ofNat_lt.2 hkl, t8, t9, t10, t26, t28, t30, hlk, hsu, hf0, hav1, hgn1, hyc, hzc, hk100, hk0, Nat.zero_add, Int.toNat_natCast] <;> rfl)) | exact rfl)))
          all_goals first | contradiction | skip
          exact ⟨k + 1, ⟨hkl, by (first | (focus (simp only [go_sem, ↓reduceIte, simprocAttr, hsu]; first | done | rfl)) | rfl), ⟨by (first | (focus (simp only [go_sem, ↓reduceIte, simprocAttr, t1]; first | done | rfl)) | rfl), by (first | (focus (simp only [go_sem, ↓reduceIte, simprocAttr, t5]; first | done | rfl)) | rfl), by (first | (focus (simp only [go_sem, ↓reduceIte, simprocAttr, t7]; first | done | rfl)) | rfl), by (first | (focus (simp only [go_sem, ↓reduceIte, simprocAttr, t8]; first | done | rfl)) | rfl), by (first | (focus (simp only [go_sem, ↓reduceIte, simprocAttr, t9]; first | done | rfl)) | rfl), by (first | (focus (simp only [go_sem, ↓reduceIte, simprocAttr, t10]; first | done | rfl)) | rfl), by (first | (focus (simp only [go_sem, ↓reduceIte, simprocAttr, t11]; first | done | rfl)) | rfl), by (first | (focus (simp only [go_sem, ↓reduceIte, simprocAttr, t12]; first | done | rfl)) | rfl)⟩, by (first | (focus (simp only [go_sem, ↓reduceIte, simprocAttr, t26]; first | done | rfl)) | rfl), by (first | (focus (simp only [go_sem, ↓reduceIte, simprocAttr, t28]; first | done | rfl)) | rfl), hK.grow hG1, hG1.get hx, hav1⟩, Nat.sub_lt_sub_left hkl (Nat.lt_succ_self k)⟩
  · have hke : k = n := Nat.le_antisymm hk (Nat.not_lt.1 hkl)
    rw [hke] at t30
    repeat' (first | refine spD (fun _ => ?_) (fun _ => ?_) | refine spF (fun _ => ?_) (fun _ => ?_) | (apply gT; (exact rfl)) | (apply off; (exact rfl); (exact rfl)) | (apply condT; (exact rfl)) | (apply condF; (exact rfl)) | ((first | (apply stp0; (exact rfl); (exact rfl)) | (apply stpN0; (exact rfl)) | apply gT | apply condT | ((first | apply bodyQ_d0 | apply bodyQ_d1 | apply bodyQ_d2 | apply bodyQ_d3 | apply bodyQ_d4); (exact .inr rfl); (rw [Try.results12]))); (first | (focus (simp only [go_sem, ↓reduceIte, simprocAttr, Int.lt_irrefl, t10, t30] <;> rfl)) | exact rfl); (first | (fail_if_success (show okD _ _ _ _ _ _ _ _ _)) | (first | exact okT | exact okN | exact okE rfl)); (first | (fail_if_success (show Bel _ _)) | (focus first | exact .val _ | (simp [oneOf, Bel_iff_tup, Bel_iff_agg, Bel_iff_rsl, Bel_iff_fn, Bel_iff_rptr, Bel_val]; done)))) | refine thenQ_n ?_ | refine thenQ_r ?_ | refine thenQ_e ?_ | refine blockQ_n ?_ | refine blockQ_r ?_ | refine blockQ_e ?_ | (apply blockQ_o; (exact rfl)) | refine Awp.seq ?_ | refine Awp.skip ?_ | refine Awp.block ?_ | refine reg (fun s => s == 12 || s == 14 || s == 22 || s == 31) ?_ | (apply drwE mixed (fun s => s == 12 || s == 14 || s == 22 || s == 31); (kernel_rfl)) | refine fin ?_ | refine Awp.ret ?_ | refine Awp.exit ?_ | ((first | (apply off; (exact rfl)) | apply condF); (first | (focus (simp only [go_sem, ↓reduceIte, simprocAttr, Int.lt_irrefl, t10, t30] <;> rfl)) | exact rfl)))
    all_goals first | contradiction | skip
    exact ⟨rfl, n, w, S, R, G, g, ⟨by (first | (focus (simp only [go_sem, ↓reduceIte, simprocAttr, t1]; first | done | rfl)) | rfl), by (first | (focus (simp only [go_sem, ↓reduceIte, simprocAttr, t5]; first | done | rfl)) | rfl), by (first | (focus (simp only [go_sem, ↓reduceIte, simprocAttr, t7]; first | done | rfl)) | rfl), by (first | (focus (simp only [go_sem, ↓reduceIte, simprocAttr, t8]; first | done | rfl)) | rfl), by (first | (focus (simp only [go_sem, ↓reduceIte, simprocAttr, t9]; first | done | rfl)) | rfl), by (first | (focus (simp only [go_sem, ↓reduceIte, simprocAttr, t10]; first | done | rfl)) | rfl), by (first | (focus (simp only [go_sem, ↓reduceIte, simprocAttr, t11]; first | done | rfl)) | rfl), by (first | (focus (simp only [go_sem, ↓reduceIte, simprocAttr, t12]; first | done | rfl)) | rfl)⟩, hK, hI, hx, rfl, rfl⟩

end Go.Proofs.Ytlhchnnfgppneaa.Ab
namespace Go.Proofs.Ytlhchnnfgppneaa.Ab
open Go Go.RowKit Go.Proofs
set_option linter.unusedSimpArgs false
set_option linter.unusedVariables false
attribute [local irreducible] Awp wpO thenQ blockQ bodyQ ACalls stepA

theorem idsL_split {L : List Hd} {k : Nat} {h : Hd} (hk : L[k]? = some h) : idsL L = idsL (L.take k) ++ h.r.id :: idsL (L.drop (k + 1)) := by
  have hlt := (List.getElem?_eq_some_iff.1 hk).1
  have e : L = L.take k ++ h :: L.drop (k + 1) := by
    have := List.take_append_drop k L
    rw [List.drop_eq_getElem_cons hlt, (List.getElem?_eq_some_iff.1 hk).2] at this
    exact this.symm
  have e2 := congrArg idsL e
  rw [e2]; simp [idsL]
theorem bst_go {t wt room : Int} {L : List Hd} {k : Nat} {h : Hd} (hk : L[k]? = some h) (c : dueB t wt h = true ∧ h.bytes ≤ (bst t wt (L.take k) room).1) :
    (bst t wt L room).2[(bst t wt (L.take k) room).2.length]? = some h.r.id ∧ h.r.id ∈ (bst t wt L room).2 := by
  have hlt := (List.getElem?_eq_some_iff.1 hk).1
  obtain ⟨m, e, _⟩ := bst_all (t := t) (wt := wt) (L := L) (room := room) (i := k + 1) hlt
  rw [bst_succ hk] at e
  unfold bstep at e
  rw [if_pos c] at e
  rw [e]
  refine ⟨?_, by simp⟩
  simp
theorem bst_no {t wt room : Int} {L : List Hd} {k : Nat} {h : Hd} (hn : (idsL L).Nodup) (hk : L[k]? = some h) (c : ¬ (dueB t wt h = true ∧ h.bytes ≤ (bst t wt (L.take k) room).1)) :
    (∀ x, (bst t wt L room).2[(bst t wt (L.take k) room).2.length]? = some x → ¬ x = h.r.id) ∧ h.r.id ∉ (bst t wt L room).2 := by
  have hlt := (List.getElem?_eq_some_iff.1 hk).1
  obtain ⟨m, e, hm⟩ := bst_all (t := t) (wt := wt) (L := L) (room := room) (i := k + 1) hlt
  rw [bst_succ hk] at e
  unfold bstep at e
  rw [if_neg c] at e
  rw [idsL_split hk] at hn
  obtain ⟨_, h2, h3⟩ := List.pairwise_append.1 hn
  have h4 := (List.pairwise_cons.1 h2).1
  have h5 : ∀ x ∈ m, ¬ x = h.r.id := fun x hx ex => h4 x (hm x hx) ex.symm
  rw [e]
  refine ⟨fun x hx => ?_, fun hx => ?_⟩
  · rw [List.getElem?_append_right (Nat.le_refl _), Nat.sub_self] at hx
    exact h5 x (List.mem_of_getElem? hx)
  · rcases List.mem_append.1 hx with hx | hx
    · have : h.r.id ∈ idsL (L.take k) := (bst_mem (L.take k) (room, []) _ hx).resolve_left (by simp)
      exact h3 _ this _ (by simp) rfl
    · exact h5 _ hx rfl
theorem bst_full {t wt room : Int} {L : List Hd} : bst t wt (L.take L.length) room = bst t wt L room := by rw [List.take_length]

theorem Rep.outA {H K : Hp} {F : Ft} {w w' : Rw} {S S' : Bf} {a : AV} {out : List Int} (hH : Rep H F w S) (h : Rep K F w' S') (ho : w'.ord = w.ord) (hO : OutR H.length K a out) : Rep (ownK K a) F w' S' := by
  obtain ⟨l1, l2, l3, l4⟩ := hH.raw.lt
  refine ⟨⟨?_, ?_, ?_, ?_, h.raw.rs, h.raw.rt, h.raw.st⟩, h.cap, h.used, h.time, ?_, h.mr, h.ms, h.mt⟩
  · rw [ownK_low hO.own l1]; exact h.raw.hb
  · rw [ownK_low hO.own l2]; exact h.raw.hr
  · rw [ownK_low hO.own l3]; exact h.raw.hs
  · rw [ownK_low hO.own l4]; exact h.raw.ht
  · refine h.ord.get fun o n v e hb => ?_
    rw [ho] at e
    obtain ⟨v0, h0, _⟩ := hH.ord.blk e
    rw [ownK_low hO.own (List.getElem?_eq_some_iff.1 h0).1]; exact hb

end Go.Proofs.Ytlhchnnfgppneaa.Ab
namespace Go.Proofs.Ytlhchnnfgppneaa.Ab
open Go Go.RowKit Go.Proofs
set_option linter.unusedSimpArgs false
set_option linter.unusedVariables false
attribute [local irreducible] Awp wpO thenQ blockQ bodyQ ACalls stepA
section
variable {P : Program} {n : Nat} {rd : Option Nat} {T T' : Env} {H : Hp} {Q : Exit → Env → Hp → Prop}

theorem Awp.frzCell {c : Code} {s b len k : Nat} {es : List (List AV)} {e0 : List AV} {t t' : TypeId} (hsb : s ≠ b) (hs : H[s]? = some (.cells [e0] t)) (hk0 : e0[k]? = some (.msl b 0 len)) (hb : H[b]? = some (.cells es t')) (hfit : len ≤ es.length)
    (h : Awp P n rd c T ((H.set b .dead).set s (.cells [e0.set k (.rsl (es.take len) false)] t)) Q) : Awp P n rd c T H Q := by
  unfold Awp at *
  intro base w0 g w a r S hTR hr
  obtain ⟨y, o, h1, _, _⟩ := S.obj b _ hb (by simp)
  obtain ⟨g', h2, h3, h4⟩ := freeze_R S hb h1
  have hTR' : TRel g' n T a.tmps := ⟨hTR.size, fun s => (hTR.slot s).mono h2⟩
  have h5 := h3.retell (s := s) (ob := .cells [e0] t) (ob' := .cells [e0.set k (.rsl (es.take len) false)] t) (by rw [List.getElem?_set_ne (fun e => hsb e.symm)]; exact hs) (by simp) (by
    intro k1 cp o h
    cases h with
    | cells hsz hle hk hr =>
      refine .cells hsz (by simpa using hle) (fun i e he => ?_) (fun i e j c he hc => ?_)
      · cases i with
        | zero =>
          have := hk 0 e0 rfl
          simp at he
          subst he
          simpa using this
        | succ i => simp at he
      · cases i with
        | zero =>
          simp at he
          subst he
          rw [List.getElem?_set] at hc
          split at hc
          · rename_i hkj
            subst hkj
            split at hc
            · cases hc
              obtain ⟨v, v1, v2⟩ := hr 0 e0 _ _ rfl hk0
              refine ⟨v, v1, ?_⟩
              have := (Fz.here (b := b) (es := es) (off := 0) (len := len) (by omega)).rel h1 h2 h4 v v2
              simpa using this
            · cases hc
          · exact hr 0 e0 j c rfl hc
        | succ i => simp at he)
  refine wpIn_mono (h base w0 g' w a r h5 hTR' (hr.mono h2)) fun e a2 w2 ⟨T2, H2, g2, ds, k1, k2, k3, k4, k5, k6⟩ => ?_
  exact ⟨T2, H2, g2, ds, k1, h2.trans k2, k3, k4, k5, by simpa using (Marks.nil g g').append k6 h2 k2⟩
theorem Awp.frzCellNil {c : Code} {s k : Nat} {e0 : List AV} {t : TypeId} (hs : H[s]? = some (.cells [e0] t)) (hk0 : e0[k]? = some nilS)
    (h : Awp P n rd c T (H.set s (.cells [e0.set k (.rsl [] false)] t)) Q) : Awp P n rd c T H Q := by
  unfold Awp at *
  intro base w0 g w a r S hTR hr
  have h5 := S.retell (s := s) (ob := .cells [e0] t) (ob' := .cells [e0.set k (.rsl [] false)] t) hs (by simp) (by
    intro k1 cp o h
    cases h with
    | cells hsz hle hk hr =>
      refine .cells hsz (by simpa using hle) (fun i e he => ?_) (fun i e j c he hc => ?_)
      · cases i with
        | zero =>
          have := hk 0 e0 rfl
          simp at he
          subst he
          simpa using this
        | succ i => simp at he
      · cases i with
        | zero =>
          simp at he
          subst he
          rw [List.getElem?_set] at hc
          split at hc
          · rename_i hkj
            subst hkj
            split at hc
            · cases hc
              obtain ⟨v, v1, v2⟩ := hr 0 e0 _ _ rfl hk0
              refine ⟨v, v1, ?_⟩
              cases v2
              exact .rnil _
            · cases hc
          · exact hr 0 e0 j c rfl hc
        | succ i => simp at he)
  exact h base w0 g w a r h5 hTR hr
end

end Go.Proofs.Ytlhchnnfgppneaa.Ab
