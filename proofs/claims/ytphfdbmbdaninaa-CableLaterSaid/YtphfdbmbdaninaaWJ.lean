/- Cables: what arguments are. -/
import Derived.Test.YtphfdbmbdaninaaWM
import Derived.Test.YtphfdbmbdaninaaKR
namespace Go.Proofs.Ytphfdbmbdaninaa.Ab
open Go Go.RowKit Go.Proofs
set_option linter.unusedSimpArgs false
set_option linter.unusedVariables false
attribute [local irreducible] Awp wpO thenQ blockQ bodyQ ACalls stepA

theorem ndFit (x : List AV) (h : Fits [I, I, I, I, I, I, I, I] x) : ∃ n : Nd, x = n.cs := by
  obtain ⟨a, _, rfl, _, h⟩ := fitK h
  obtain ⟨b, _, rfl, _, h⟩ := fitK h
  obtain ⟨c, _, rfl, _, h⟩ := fitK h
  obtain ⟨d, _, rfl, _, h⟩ := fitK h
  obtain ⟨e, _, rfl, _, h⟩ := fitK h
  obtain ⟨f, _, rfl, _, h⟩ := fitK h
  obtain ⟨g, _, rfl, _, h⟩ := fitK h
  obtain ⟨k, _, rfl, _, h⟩ := fitK h
  obtain rfl := fit0 h
  exact ⟨⟨a, b, c, d, e, f, g, k⟩, rfl⟩

def cbS : Bool × List Sh := (true, [I, I, .sl 64 [I, I, I, I, I, I, I, I]])
theorem cbArg {r : List (Bool × List Sh)} {xs : List AV} (h : ArgsFit (cbS :: r) xs) : ∃ (c : Cb) (l : List AV), xs = .agg c.cs :: l ∧ ArgsFit r l := by
  obtain ⟨bs, l, rfl, h1, h2⟩ := argT h
  obtain ⟨a, _, rfl, _, h1⟩ := fitK h1
  obtain ⟨b, _, rfl, _, h1⟩ := fitK h1
  obtain ⟨es, ex, bs, rfl, h3, _, _, h4⟩ := fitL h1
  obtain ⟨s, rfl⟩ := fitMap Nd.cs ndFit es h3
  obtain rfl := fit0 h4
  exact ⟨⟨⟨a, b⟩, s, ex⟩, l, rfl, h2⟩

abbrev U8 : Sh := .int .u8
abbrev U16 : Sh := .int .u16
theorem intArg {k : IntKind} {r : List (Bool × List Sh)} {xs : List AV} (h : ArgsFit ((false, [.int k]) :: r) xs) : ∃ (n : Int) (l : List AV), xs = .val (.int k n) :: l ∧ (Lit.int k n).wf = true ∧ ArgsFit r l := by
  obtain ⟨a, l, rfl, h1, h2⟩ := argF h
  obtain ⟨n, bs, e, h3, h4⟩ := fitK h1
  cases e
  exact ⟨n, l, rfl, h3, h2⟩
theorem wfK {k : IntKind} {n : Int} (h : (Lit.int k n).wf = true) : k.min ≤ n ∧ n ≤ k.max := by
  simpa [Lit.wf] using h
theorem wf8 {n : Int} (h : (Lit.int .u8 n).wf = true) : 0 ≤ n ∧ n ≤ 255 := wfK h
theorem wf16 {n : Int} (h : (Lit.int .u16 n).wf = true) : 0 ≤ n ∧ n ≤ 65535 := wfK h
/-- numbers of another kind -/
def kints (k : IntKind) (v : List Int) : List (List AV) := v.map fun x => [.val (.int k x)]
theorem kints_len (k : IntKind) (v : List Int) : (kints k v).length = v.length := by simp [kints]
theorem kintsFit {k : IntKind} : ∀ (es : List (List AV)), (∀ x ∈ es, Fits [.int k] x) → ∃ v : List Int, es = kints k v ∧ ∀ x ∈ v, (Lit.int k x).wf = true
  | [], _ => ⟨[], rfl, by simp⟩
  | x :: es, h => by
    obtain ⟨a, bs, rfl, h2, h3⟩ := fitK (h x (by simp))
    obtain rfl := fit0 h3
    obtain ⟨v, rfl, hv⟩ := kintsFit es fun y hy => h y (by simp [hy])
    exact ⟨a :: v, rfl, by simpa using ⟨h2, hv⟩⟩
theorem kintsArg {k : IntKind} {b : Nat} {r : List (Bool × List Sh)} {xs : List AV} (h : ArgsFit ((false, [.sl b [.int k]]) :: r) xs) : ∃ (v : List Int) (ex : Bool) (l : List AV), xs = .rsl (kints k v) ex :: l ∧ (∀ x ∈ v, (Lit.int k x).wf = true) ∧ v.length ≤ maxLen ∧ ArgsFit r l := by
  obtain ⟨a, l, rfl, h1, h2⟩ := argF h
  obtain ⟨es, ex, bs, e, h3, _, hm, h4⟩ := fitL h1
  cases e
  obtain ⟨v, rfl, hv⟩ := kintsFit es h3
  exact ⟨v, ex, l, rfl, hv, by rwa [kints_len] at hm, h2⟩

theorem ifOk_map {α β : Type} (c : Cb) (f : α → β) (v : List α) : ifOk c (v.map f) = (ifOk c v).map f := by unfold ifOk; split <;> rfl
theorem ifOk_len {α : Type} {c : Cb} (hL : ¬ c.long) {v : List α} (h : v.length = c.l.length) : (ifOk c v).length ≤ maxLen := by
  unfold ifOk
  split
  · rename_i hc
    have := (good_of hL hc).h.2.1
    simp only [maxLen]; omega
  · simp

theorem intFit (x : List AV) (h : Fits [I] x) : ∃ n : Int, x = [iv n] := by
  obtain ⟨a, _, rfl, _, h⟩ := fitK h
  obtain rfl := fit0 h
  exact ⟨a, rfl⟩
theorem intsArg {r : List (Bool × List Sh)} {xs : List AV} (h : ArgsFit ((false, [.sl 8 [I]]) :: r) xs) : ∃ (v : List Int) (ex : Bool) (l : List AV), xs = .rsl (ints v) ex :: l ∧ v.length ≤ maxLen ∧ ArgsFit r l := by
  obtain ⟨a, l, rfl, h1, h2⟩ := argF h
  obtain ⟨es, ex, bs, e, h3, _, hm, h4⟩ := fitL h1
  cases e
  obtain ⟨s, rfl⟩ := fitMap (fun x : Int => [iv x]) intFit es h3
  exact ⟨s, ex, l, rfl, by rwa [List.length_map] at hm, h2⟩

def u8 (n : Int) : AV := .val (.int .u8 n)
def atU (v : List Int) (i : Nat) : Int := v.getD i 0
theorem atU_in {v : List Int} (h : ∀ x ∈ v, (Lit.int .u8 x).wf = true) (i : Nat) : 0 ≤ atU v i ∧ atU v i ≤ 255 := by
  unfold atU
  rw [List.getD_eq_getElem?_getD]
  cases hx : v[i]? with
  | none => simp
  | some x => exact wf8 (h x (List.mem_of_getElem? hx))

theorem at_ok (H : Hp) (v : List Int) (ex : Bool) (i : Nat) : CallsTo Try.prog 22 [.rsl (kints .u8 v) ex, iv i] H (u8 (atU v i)) H := by
  have hvl := kints_len .u8 v
  by_cases hlt : i < v.length
  · obtain ⟨a, ha⟩ := nth hlt
    have hac : (kints .u8 v)[i]? = some [.val (.int .u8 a)] := nthMap (fun x => [AV.val (.int .u8 x)]) ha
    have e : atU v i = a := by simp [atU, ha]
    rw [e]
    refine ACalls.of_body Try.func22 rfl (by kernel_rfl) (by rw [Try.ntmps22]; simp) ?_; rw [Try.ntmps22]
    repeat' (first | refine spD (fun _ => ?_) (fun _ => ?_) | refine spF (fun _ => ?_) (fun _ => ?_) | (apply gT; (exact rfl)) | (apply off; (exact rfl); (exact rfl)) | (apply condT; (exact rfl)) | (apply condF; (exact rfl)) | ((first | (apply stp0; (exact rfl); (exact rfl)) | (apply stpN0; (exact rfl)) | apply gT | apply condT | ((first | apply bodyQ_d0 | apply bodyQ_d1 | apply bodyQ_d2 | apply bodyQ_d3 | apply bodyQ_d4); (exact .inr rfl); (rw [Try.results22]))); (first | (focus (simp only [go_sem, ↓reduceIte, Nat.reduceEqDiff, Nat.reduceBEq, Nat.reduceAdd, Nat.reduceLeDiff, Nat.reduceMul, Nat.reduceLT, Int.reduceToNat, reduceCtorEq, Int.reduceBEq, Int.reduceBNe, Int.reduceLT, Int.reduceLE, Int.reduceGT, Int.reduceGE, hvl, hac] <;> rfl)) | exact rfl); (first | (fail_if_success (show okD _ _ _ _ _ _ _ _ _)) | (first | exact okT | exact okN | exact okE rfl)); (first | (fail_if_success (show Bel _ _)) | (focus first | exact .val _ | (simp [oneOf, Bel_iff_tup, Bel_iff_agg, Bel_iff_rsl, Bel_iff_fn, Bel_iff_rptr, Bel_val]; done)))) | refine thenQ_n ?_ | refine thenQ_r ?_ | refine thenQ_e ?_ | refine blockQ_n ?_ | refine blockQ_r ?_ | refine blockQ_e ?_ | (apply blockQ_o; (exact rfl)) | refine Awp.seq ?_ | refine Awp.skip ?_ | refine Awp.block ?_ | refine reg (fun s => false) ?_ | (apply drwE mixed (fun s => false); (kernel_rfl)) | refine fin ?_ | refine Awp.ret ?_ | refine Awp.exit ?_ | ((first | (apply off; (exact rfl)) | apply condF); (first | (focus (simp only [go_sem, ↓reduceIte, Nat.reduceEqDiff, Nat.reduceBEq, Nat.reduceAdd, Nat.reduceLeDiff, Nat.reduceMul, Nat.reduceLT, Int.reduceToNat, reduceCtorEq, Int.reduceBEq, Int.reduceBNe, Int.reduceLT, Int.reduceLE, Int.reduceGT, Int.reduceGE, hvl, hac] <;> rfl)) | exact rfl)))
    all_goals first | rfl | (exfalso; omega)
  · have e : atU v i = 0 := by simp [atU, List.getElem?_eq_none (show v.length ≤ i by omega)]
    rw [e]
    refine ACalls.of_body Try.func22 rfl (by kernel_rfl) (by rw [Try.ntmps22]; simp) ?_; rw [Try.ntmps22]
    repeat' (first | refine spD (fun _ => ?_) (fun _ => ?_) | refine spF (fun _ => ?_) (fun _ => ?_) | (apply gT; (exact rfl)) | (apply off; (exact rfl); (exact rfl)) | (apply condT; (exact rfl)) | (apply condF; (exact rfl)) | ((first | (apply stp0; (exact rfl); (exact rfl)) | (apply stpN0; (exact rfl)) | apply gT | apply condT | ((first | apply bodyQ_d0 | apply bodyQ_d1 | apply bodyQ_d2 | apply bodyQ_d3 | apply bodyQ_d4); (exact .inr rfl); (rw [Try.results22]))); (first | (focus (simp only [go_sem, ↓reduceIte, Nat.reduceEqDiff, Nat.reduceBEq, Nat.reduceAdd, Nat.reduceLeDiff, Nat.reduceMul, Nat.reduceLT, Int.reduceToNat, reduceCtorEq, Int.reduceBEq, Int.reduceBNe, Int.reduceLT, Int.reduceLE, Int.reduceGT, Int.reduceGE, hvl] <;> rfl)) | exact rfl); (first | (fail_if_success (show okD _ _ _ _ _ _ _ _ _)) | (first | exact okT | exact okN | exact okE rfl)); (first | (fail_if_success (show Bel _ _)) | (focus first | exact .val _ | (simp [oneOf, Bel_iff_tup, Bel_iff_agg, Bel_iff_rsl, Bel_iff_fn, Bel_iff_rptr, Bel_val]; done)))) | refine thenQ_n ?_ | refine thenQ_r ?_ | refine thenQ_e ?_ | refine blockQ_n ?_ | refine blockQ_r ?_ | refine blockQ_e ?_ | (apply blockQ_o; (exact rfl)) | refine Awp.seq ?_ | refine Awp.skip ?_ | refine Awp.block ?_ | refine reg (fun s => false) ?_ | (apply drwE mixed (fun s => false); (kernel_rfl)) | refine fin ?_ | refine Awp.ret ?_ | refine Awp.exit ?_ | ((first | (apply off; (exact rfl)) | apply condF); (first | (focus (simp only [go_sem, ↓reduceIte, Nat.reduceEqDiff, Nat.reduceBEq, Nat.reduceAdd, Nat.reduceLeDiff, Nat.reduceMul, Nat.reduceLT, Int.reduceToNat, reduceCtorEq, Int.reduceBEq, Int.reduceBNe, Int.reduceLT, Int.reduceLE, Int.reduceGT, Int.reduceGE, hvl] <;> rfl)) | exact rfl)))
    all_goals first | rfl | (exfalso; omega)

end Go.Proofs.Ytphfdbmbdaninaa.Ab
