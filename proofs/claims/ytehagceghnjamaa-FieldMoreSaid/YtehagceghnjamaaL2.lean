/- Fields: values that do not differ too much between neighbours do not anywhere. -/
import Derived.Test.YtehagceghnjamaaK5
namespace Go.Proofs.Ytehagceghnjamaa.Ab
open Go Go.RowKit Go.Proofs
set_option linter.unusedVariables false

/-- a spot by its row and its column -/
def Fd.sp3 (f : Fd) (m r q : Nat) : Spot := ⟨m, r * f.w + q⟩

theorem coords {f : Fd} (hf : f.ok) {q : Nat} (r : Nat) (hq : (q : Int) < f.w) : ((r : Int) * f.w + q).tmod f.w = q ∧ ((r : Int) * f.w + q).tdiv f.w = r := by
  have hw : 1 ≤ f.w := hf.1
  have h0 : 0 ≤ (r : Int) * f.w := Int.mul_nonneg (by omega) (by omega)
  rw [Int.tmod_eq_emod_of_nonneg (by omega), Int.tdiv_eq_ediv_of_nonneg (by omega)]
  constructor
  · rw [Int.mul_comm, Int.mul_add_emod_self_left]
    exact Int.emod_eq_of_lt (by omega) hq
  · rw [Int.mul_comm, Int.mul_add_ediv_left _ _ (show f.w ≠ 0 by omega), Int.ediv_eq_zero_of_lt (by omega) hq]
    omega

theorem sp3_has {f : Fd} (hf : f.ok) {m r q : Nat} (hm : (m : Int) ≤ f.last) (hr : (r : Int) < f.h) (hq : (q : Int) < f.w) : f.has (f.sp3 m r q) := by
  have hw : 1 ≤ f.w := hf.1
  have h0 : 0 ≤ (r : Int) * f.w := Int.mul_nonneg (by omega) (by omega)
  have h1 := Int.mul_le_mul_of_nonneg_right (show (r : Int) ≤ f.h - 1 by omega) (show 0 ≤ f.w by omega)
  rw [Int.sub_mul, Int.one_mul] at h1
  have e : f.cells = f.h * f.w := Int.mul_comm ..
  refine ⟨by simp [Fd.sp3], hm, ?_, ?_⟩ <;> simp only [Fd.sp3] <;> omega

theorem sp3_of {f : Fd} (hf : f.ok) {x : Spot} (hx : f.has x) : ∃ m r q : Nat, x = f.sp3 m r q ∧ (m : Int) ≤ f.last ∧ (r : Int) < f.h ∧ (q : Int) < f.w := by
  have hw : 1 ≤ f.w := hf.1
  obtain ⟨h1, h2, h3, h4⟩ := hx
  have e := Int.mul_ediv_add_emod x.c f.w
  have q1 := Int.emod_nonneg x.c (show f.w ≠ 0 by omega)
  have q2 := Int.emod_lt_of_pos x.c (show 0 < f.w by omega)
  have q3 := Int.ediv_nonneg h3 (show 0 ≤ f.w by omega)
  have q4 : x.c / f.w < f.h := Int.ediv_lt_of_lt_mul (by omega) (by rw [Int.mul_comm]; exact h4)
  refine ⟨x.m.toNat, (x.c / f.w).toNat, (x.c % f.w).toNat, ?_, by omega, by omega, by omega⟩
  obtain ⟨m, c⟩ := x
  simp only [Fd.sp3, Spot.mk.injEq]
  refine ⟨by simp only at h1; omega, ?_⟩
  rw [Int.toNat_of_nonneg q3, Int.toNat_of_nonneg q1, Int.mul_comm]
  exact e.symm

theorem away3 {f : Fd} (hf : f.ok) {m r q m' r' q' : Nat} (hq : (q : Int) < f.w) (hq' : (q' : Int) < f.w) :
    f.away (f.sp3 m r q) (f.sp3 m' r' q') = f.sp * (absZ (q - q') + absZ (r - r')) + f.ch * absZ (m - m') := by
  unfold Fd.away
  simp only [Fd.sp3]
  rw [(coords hf r hq).1, (coords hf r hq).2, (coords hf r' hq').1, (coords hf r' hq').2]

/-- values that do not differ more between any spots than these are apart -/
def Lip (f : Fd) (v : List Int) : Prop := ∀ x y, f.has x → f.has y → v.getD (f.num x) 0 - v.getD (f.num y) 0 ≤ f.away x y
def Rng (f : Fd) (v : List Int) : Prop := ∀ x, f.has x → f.lo ≤ v.getD (f.num x) 0 ∧ v.getD (f.num x) 0 ≤ f.hi

section path
variable {f : Fd} {V : Spot → Int}

theorem go_m (hf : f.ok) (h : ∀ m r q : Nat, ((m + 1 : Nat) : Int) ≤ f.last → (r : Int) < f.h → (q : Int) < f.w → V (f.sp3 m r q) - V (f.sp3 (m + 1) r q) ≤ f.ch ∧ V (f.sp3 (m + 1) r q) - V (f.sp3 m r q) ≤ f.ch) :
    ∀ (n m r q : Nat), ((m + n : Nat) : Int) ≤ f.last → (r : Int) < f.h → (q : Int) < f.w → V (f.sp3 m r q) - V (f.sp3 (m + n) r q) ≤ f.ch * n ∧ V (f.sp3 (m + n) r q) - V (f.sp3 m r q) ≤ f.ch * n
  | 0, m, r, q, h1, h2, h3 => by simp
  | n + 1, m, r, q, h1, h2, h3 => by
    have ih := go_m hf h n m r q (by omega) h2 h3
    have := h (m + n) r q (by omega) h2 h3
    have e : f.ch * ((n + 1 : Nat) : Int) = f.ch * n + f.ch := by rw [Int.natCast_succ, Int.mul_add, Int.mul_one]
    rw [e, ← Nat.add_assoc]
    omega

theorem go_r (hf : f.ok) (h : ∀ m r q : Nat, (m : Int) ≤ f.last → ((r + 1 : Nat) : Int) < f.h → (q : Int) < f.w → V (f.sp3 m r q) - V (f.sp3 m (r + 1) q) ≤ f.sp ∧ V (f.sp3 m (r + 1) q) - V (f.sp3 m r q) ≤ f.sp) :
    ∀ (n m r q : Nat), (m : Int) ≤ f.last → ((r + n : Nat) : Int) < f.h → (q : Int) < f.w → V (f.sp3 m r q) - V (f.sp3 m (r + n) q) ≤ f.sp * n ∧ V (f.sp3 m (r + n) q) - V (f.sp3 m r q) ≤ f.sp * n
  | 0, m, r, q, h1, h2, h3 => by simp
  | n + 1, m, r, q, h1, h2, h3 => by
    have ih := go_r hf h n m r q h1 (by omega) h3
    have := h m (r + n) q h1 (by omega) h3
    have e : f.sp * ((n + 1 : Nat) : Int) = f.sp * n + f.sp := by rw [Int.natCast_succ, Int.mul_add, Int.mul_one]
    rw [e, ← Nat.add_assoc]
    omega

theorem go_q (hf : f.ok) (h : ∀ m r q : Nat, (m : Int) ≤ f.last → (r : Int) < f.h → ((q + 1 : Nat) : Int) < f.w → V (f.sp3 m r q) - V (f.sp3 m r (q + 1)) ≤ f.sp ∧ V (f.sp3 m r (q + 1)) - V (f.sp3 m r q) ≤ f.sp) :
    ∀ (n m r q : Nat), (m : Int) ≤ f.last → (r : Int) < f.h → ((q + n : Nat) : Int) < f.w → V (f.sp3 m r q) - V (f.sp3 m r (q + n)) ≤ f.sp * n ∧ V (f.sp3 m r (q + n)) - V (f.sp3 m r q) ≤ f.sp * n
  | 0, m, r, q, h1, h2, h3 => by simp
  | n + 1, m, r, q, h1, h2, h3 => by
    have ih := go_q hf h n m r q h1 h2 (by omega)
    have := h m r (q + n) h1 h2 (by omega)
    have e : f.sp * ((n + 1 : Nat) : Int) = f.sp * n + f.sp := by rw [Int.natCast_succ, Int.mul_add, Int.mul_one]
    rw [e, ← Nat.add_assoc]
    omega

/-- from neighbours to all -/
theorem all_of_near (hf : f.ok)
    (hm : ∀ m r q : Nat, ((m + 1 : Nat) : Int) ≤ f.last → (r : Int) < f.h → (q : Int) < f.w → V (f.sp3 m r q) - V (f.sp3 (m + 1) r q) ≤ f.ch ∧ V (f.sp3 (m + 1) r q) - V (f.sp3 m r q) ≤ f.ch)
    (hr : ∀ m r q : Nat, (m : Int) ≤ f.last → ((r + 1 : Nat) : Int) < f.h → (q : Int) < f.w → V (f.sp3 m r q) - V (f.sp3 m (r + 1) q) ≤ f.sp ∧ V (f.sp3 m (r + 1) q) - V (f.sp3 m r q) ≤ f.sp)
    (hq : ∀ m r q : Nat, (m : Int) ≤ f.last → (r : Int) < f.h → ((q + 1 : Nat) : Int) < f.w → V (f.sp3 m r q) - V (f.sp3 m r (q + 1)) ≤ f.sp ∧ V (f.sp3 m r (q + 1)) - V (f.sp3 m r q) ≤ f.sp)
    {x y : Spot} (hx : f.has x) (hy : f.has y) : V x - V y ≤ f.away x y := by
  obtain ⟨m, r, q, rfl, a1, a2, a3⟩ := sp3_of hf hx
  obtain ⟨m', r', q', rfl, b1, b2, b3⟩ := sp3_of hf hy
  rw [away3 hf a3 b3, Int.mul_add]
  have s1 : V (f.sp3 m r q) - V (f.sp3 m r' q) ≤ f.sp * absZ (r - r') := by
    rcases Nat.le_total r r' with h | h
    · have := (go_r hf hr (r' - r) m r q a1 (by omega) a3).1
      rw [show r + (r' - r) = r' by omega] at this
      rw [show absZ ((r : Int) - r') = ((r' - r : Nat) : Int) by unfold absZ; omega]
      exact this
    · have := (go_r hf hr (r - r') m r' q a1 (by omega) a3).2
      rw [show r' + (r - r') = r by omega] at this
      rw [show absZ ((r : Int) - r') = ((r - r' : Nat) : Int) by unfold absZ; omega]
      exact this
  have s2 : V (f.sp3 m r' q) - V (f.sp3 m r' q') ≤ f.sp * absZ (q - q') := by
    rcases Nat.le_total q q' with h | h
    · have := (go_q hf hq (q' - q) m r' q a1 b2 (by omega)).1
      rw [show q + (q' - q) = q' by omega] at this
      rw [show absZ ((q : Int) - q') = ((q' - q : Nat) : Int) by unfold absZ; omega]
      exact this
    · have := (go_q hf hq (q - q') m r' q' a1 b2 (by omega)).2
      rw [show q' + (q - q') = q by omega] at this
      rw [show absZ ((q : Int) - q') = ((q - q' : Nat) : Int) by unfold absZ; omega]
      exact this
  have s3 : V (f.sp3 m r' q') - V (f.sp3 m' r' q') ≤ f.ch * absZ (m - m') := by
    rcases Nat.le_total m m' with h | h
    · have := (go_m hf hm (m' - m) m r' q' (by omega) b2 b3).1
      rw [show m + (m' - m) = m' by omega] at this
      rw [show absZ ((m : Int) - m') = ((m' - m : Nat) : Int) by unfold absZ; omega]
      exact this
    · have := (go_m hf hm (m - m') m' r' q' (by omega) b2 b3).2
      rw [show m' + (m - m') = m by omega] at this
      rw [show absZ ((m : Int) - m') = ((m - m' : Nat) : Int) by unfold absZ; omega]
      exact this
  omega

end path

theorem near_q {f : Fd} (hf : f.ok) {m r q : Nat} (hq : ((q + 1 : Nat) : Int) < f.w) : f.sp3 m r (q + 1) ∈ nears f (f.sp3 m r q) := by
  have hc := (coords hf r (show (q : Int) < f.w by omega)).1
  have hif : (f.sp3 m r q).c.tmod f.w + 1 < f.w := by simp only [Fd.sp3]; rw [hc]; omega
  unfold nears
  rw [if_pos hif]
  simp only [Fd.sp3, near2, List.mem_append, List.mem_cons, List.not_mem_nil, or_false, Spot.mk.injEq, true_and]
  exact .inr (by omega)
theorem near_r {f : Fd} {m r q : Nat} : f.sp3 m (r + 1) q ∈ nears f (f.sp3 m r q) := by
  simp only [nears, Fd.sp3, near2, List.mem_append, List.mem_cons, Spot.mk.injEq, true_and]
  have : ((r + 1 : Nat) : Int) * f.w = r * f.w + f.w := by rw [Int.natCast_succ, Int.add_mul, Int.one_mul]
  exact .inl (.inl (by omega))
theorem near_m {f : Fd} {m r q : Nat} : f.sp3 (m + 1) r q ∈ nears f (f.sp3 m r q) := by
  simp only [nears, Fd.sp3, near2, List.mem_append, List.mem_cons, Spot.mk.injEq, true_and]
  exact .inl (.inr (.inl ⟨by omega, trivial⟩))

/-- values are possible if they lie in the range and do not differ too much anywhere -/
theorem poss_iff {f : Fd} (hf : f.ok) {v : List Int} : poss f v ↔ Rng f v ∧ Lip f v := by
  have hrg := hf.rng
  constructor
  · intro h
    have hR : Rng f v := fun x hx => by
      obtain ⟨_, hn, hat⟩ := hx.num hf
      exact (h _ hn).1
    refine ⟨hR, fun x y hx hy => ?_⟩
    have step : ∀ x y, f.has x → f.has y → y ∈ nears f x → v.getD (f.num x) 0 - v.getD (f.num y) 0 ≤ f.away x y ∧ v.getD (f.num y) 0 - v.getD (f.num x) 0 ≤ f.away x y := by
      intro x y hx hy hn
      obtain ⟨_, h1, hat⟩ := hx.num hf
      have := (h _ h1).2 y (by rw [hat]; exact hn) hy
      rw [hat] at this
      have r1 := hR x hx
      have r2 := hR y hy
      rw [w64 (by omega) (by omega)] at this
      omega
    have a1 : absZ 0 = 0 := by simp [absZ]
    have a2 : ∀ n : Nat, absZ ((n : Int) - ((n + 1 : Nat) : Int)) = 1 := fun n => by unfold absZ; omega
    have a3 : ∀ n : Int, absZ (n - n) = 0 := fun n => by unfold absZ; omega
    refine all_of_near (V := fun x => v.getD (f.num x) 0) hf ?_ ?_ ?_ hx hy
    · intro m r q h1 h2 h3
      have := step _ _ (sp3_has hf (m := m) (by omega) h2 h3) (sp3_has hf h1 h2 h3) near_m
      rwa [away3 hf h3 h3, a2, a3, a3, Int.add_zero, Int.mul_zero, Int.mul_one, Int.zero_add] at this
    · intro m r q h1 h2 h3
      have := step _ _ (sp3_has hf (r := r) h1 (by omega) h3) (sp3_has hf h1 h2 h3) near_r
      rwa [away3 hf h3 h3, a2, a3, a3, Int.zero_add, Int.mul_zero, Int.mul_one, Int.add_zero] at this
    · intro m r q h1 h2 h3
      have := step _ _ (sp3_has hf (q := q) h1 h2 (by omega)) (sp3_has hf h1 h2 h3) (near_q hf h3)
      rwa [away3 hf (show (q : Int) < f.w by omega) h3, a2, a3, a3, Int.add_zero, Int.mul_zero, Int.mul_one, Int.add_zero] at this
  · rintro ⟨hR, hL⟩ k hk
    have hx := Fd.at_has hf hk
    have hn := num_at hf hk
    have r1 := hR _ hx
    rw [hn] at r1
    refine ⟨r1, fun y _ hy => ?_⟩
    have r2 := hR _ hy
    have l1 := hL _ _ hx hy
    have l2 := hL _ _ hy hx
    rw [hn] at l1 l2
    rw [away_sym] at l2
    rw [w64 (by omega) (by omega)]
    omega

theorem ACalls.withArgs {P : Program} {f : FuncId} {args args' : List AV} {H : Hp} {Post : AV → Hp → Prop} (hargs : ∀ g vs, RCells g args' vs → RCells g args vs) (h : ACalls P f args H Post) : ACalls P f args' H Post :=
  ⟨h.1, fun base w0 g w vs S hr => h.2 base w0 g w vs S (hargs g vs hr)⟩

/-- an argument that is nil is a row without elements -/
theorem nilArg {g : Gh} {vs : Array Value} {a : AV} {r : List AV} (h : RCells g (a :: nilS :: r) vs) : RCells g (a :: .rsl [] true :: r) vs := by
  refine ⟨h.size, fun i c u hc hu => ?_⟩
  match i with
  | 0 => exact h.cell 0 c u hc hu
  | 1 =>
    have := h.cell 1 nilS u rfl hu
    cases hc
    cases this
    exact .rnil none
  | i + 2 => exact h.cell (i + 2) c u hc hu

end Go.Proofs.Ytehagceghnjamaa.Ab
