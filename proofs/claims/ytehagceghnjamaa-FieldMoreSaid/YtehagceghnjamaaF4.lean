/- Fields: observations that contradict each other. -/
import Derived.Test.YtehagceghnjamaaF3
namespace Go.Proofs.Ytehagceghnjamaa.Ab
open Go Go.RowKit Go.Proofs
set_option linter.unusedSimpArgs false
set_option linter.unusedVariables false
attribute [local irreducible] Awp wpO thenQ blockQ bodyQ ACalls stepA

/-- the first number from i on, among c numbers, of which p holds -/
def find (p : Nat → Bool) : Nat → Nat → Option Nat
  | _, 0 => none
  | i, c + 1 => if p i then some i else find p (i + 1) c

theorem find_some {p : Nat → Bool} : ∀ {c i k : Nat}, find p i c = some k → p k = true ∧ i ≤ k ∧ k < i + c ∧ ∀ j, i ≤ j → j < k → p j = false
  | c + 1, i, k, h => by
    unfold find at h
    split at h
    · cases h; exact ⟨by assumption, Nat.le_refl _, by omega, fun j h1 h2 => by omega⟩
    · rename_i hn
      obtain ⟨h1, h2, h3, h4⟩ := find_some h
      refine ⟨h1, by omega, by omega, fun j k1 k2 => ?_⟩
      by_cases e : j = i
      · subst e; simpa using hn
      · exact h4 j (by omega) k2

theorem find_none {p : Nat → Bool} : ∀ {c i : Nat}, find p i c = none → ∀ j, i ≤ j → j < i + c → p j = false
  | 0, i, _, j, h1, h2 => by omega
  | c + 1, i, h, j, h1, h2 => by
    unfold find at h
    split at h
    · cases h
    · rename_i hn
      by_cases e : j = i
      · subst e; simpa using hn
      · exact find_none h j (by omega) (by omega)

theorem find_step {p : Nat → Bool} {i n : Nat} (h : i < n) : find p i (n - i) = if p i then some i else find p (i + 1) (n - (i + 1)) := by
  have e : n - i = (n - (i + 1)) + 1 := by omega
  rw [e, find]

theorem find_end {p : Nat → Bool} {i n : Nat} (h : n ≤ i) : find p i (n - i) = none := by
  rw [Nat.sub_eq_zero_of_le h]; rfl

/-- the first pair -/
def find2 (q : Nat → Nat → Bool) (n : Nat) : Nat → Nat → Option (Nat × Nat)
  | _, 0 => none
  | i, c + 1 => match find (q i) 0 n with
    | some k => some (i, k)
    | none => find2 q n (i + 1) c

theorem find2_step {q : Nat → Nat → Bool} {m i n : Nat} (h : i < n) : find2 q m i (n - i) = match find (q i) 0 m with
    | some k => some (i, k)
    | none => find2 q m (i + 1) (n - (i + 1)) := by
  have e : n - i = (n - (i + 1)) + 1 := by omega
  rw [e, find2]

theorem find2_end {q : Nat → Nat → Bool} {m i n : Nat} (h : n ≤ i) : find2 q m i (n - i) = none := by
  rw [Nat.sub_eq_zero_of_le h]; rfl

theorem find2_some {q : Nat → Nat → Bool} {n : Nat} : ∀ {c i a b : Nat}, find2 q n i c = some (a, b) → q a b = true ∧ i ≤ a ∧ a < i + c ∧ b < n
  | c + 1, i, a, b, h => by
    unfold find2 at h
    split at h
    · rename_i k hk
      cases h
      obtain ⟨h1, h2, h3, _⟩ := find_some hk
      exact ⟨h1, Nat.le_refl _, by omega, by omega⟩
    · obtain ⟨h1, h2, h3, h4⟩ := find2_some h
      exact ⟨h1, by omega, by omega, h4⟩

theorem find2_none {q : Nat → Nat → Bool} {n : Nat} : ∀ {c i : Nat}, find2 q n i c = none → ∀ a b, i ≤ a → a < i + c → b < n → q a b = false
  | 0, i, _, a, b, h1, h2, h3 => by omega
  | c + 1, i, h, a, b, h1, h2, h3 => by
    unfold find2 at h
    split at h
    · cases h
    · rename_i hk
      by_cases e : a = i
      · subst e; exact find_none hk b (by omega) (by omega)
      · exact find2_none h a b (by omega) (by omega) h3

def Seen.zero : Seen := ⟨0, 0, 0, 0⟩
def conOne (f : Fd) (l : List Seen) (i : Nat) : Bool := decide ((l.getD i .zero).lo > f.hi ∨ (l.getD i .zero).hi < f.lo)
def conTwo (f : Fd) (l : List Seen) (i k : Nat) : Bool := decide ((l.getD i .zero).lo - (l.getD k .zero).hi > f.away (l.getD i .zero).spot (l.getD k .zero).spot)

/-- two observations that contradict each other -/
def con (f : Fd) (l : List Seen) : Option (Nat × Nat) := match find (conOne f l) 0 l.length with
  | some i => some (i, i)
  | none => find2 (conTwo f l) l.length 0 l.length

def conV : Option (Nat × Nat) → AV
  | some (i, k) => .tup [iv i, iv k, bv true]
  | none => .tup [iv 0, iv 0, bv false]

theorem getD_of {α : Type} {l : List α} {i : Nat} {a z : α} (h : l[i]? = some a) : l.getD i z = a := by rw [List.getD_eq_getElem?_getD, h]; rfl

theorem contradict_ok (H : Hp) (s : Nat) (f : Fd) (hf : f.ok) (l : List Seen) (ex : Bool) (hlen : l.length ≤ maxLen) (hl : f.seenOk l) (sets : AV) (hs : H[s]? = some (sea f (.rsl (l.map Seen.cs) ex) sets)) :
    CallsTo Try.prog 50 [.mptr s 0 0] H (conV (con f l)) H := by
  have hS := held hs
  have hs' := hS
  simp only [sea, Fd.cs, List.cons_append, List.nil_append] at hs'
  refine ACalls.of_body Try.func50 rfl (by kernel_rfl) (by rw [Try.ntmps50]; simp) ?_; rw [Try.ntmps50]
  repeat' (first | refine spD (fun _ => ?_) (fun _ => ?_) | refine spF (fun _ => ?_) (fun _ => ?_) | ((first | (apply stp0; (exact rfl); (exact rfl)) | (apply stpN0; (exact rfl))); (simp only [go_sem, ↓reduceIte, Nat.reduceEqDiff, Nat.reduceBEq, Nat.reduceAdd, Nat.reduceLeDiff, Nat.reduceMul, Nat.reduceLT, Int.reduceToNat, reduceCtorEq, Int.reduceBEq, Int.reduceBNe, Int.reduceLT, Int.reduceLE, Int.reduceGT, Int.reduceGE, hs']; rfl); (first | exact okT | exact okN | exact okE rfl)) | (apply gT; (exact rfl)) | (apply off; (exact rfl); (exact rfl)) | refine thenQ_n ?_ | refine thenQ_r ?_ | refine thenQ_e ?_ | refine blockQ_n ?_ | refine blockQ_r ?_ | refine blockQ_e ?_ | (apply blockQ_o; (exact rfl)) | refine Awp.seq ?_ | refine Awp.skip ?_ | refine Awp.block ?_ | refine reg (fun s => s == 6 || s == 8 || s == 10) ?_ | (apply drwE mixed (fun s => s == 6 || s == 8 || s == 10); (kernel_rfl)) | refine fin ?_ | (apply condT; (exact rfl)) | (apply condF; (exact rfl)) | refine Awp.ret ?_ | refine Awp.exit ?_ | ((first | apply bodyQ_d0 | apply bodyQ_d1 | apply bodyQ_d2 | apply bodyQ_d3 | apply bodyQ_d4); (exact .inr rfl); (rw [Try.results50]; simp only [go_sem, ↓reduceIte, Nat.reduceEqDiff, Nat.reduceBEq, Nat.reduceAdd, Nat.reduceLeDiff, Nat.reduceMul, Nat.reduceLT, Int.reduceToNat, reduceCtorEq, Int.reduceBEq, Int.reduceBNe, Int.reduceLT, Int.reduceLE, Int.reduceGT, Int.reduceGE, hs']; rfl); (first | (show Bel _ _; (focus first | exact .val _ | (simp [oneOf, Bel_iff_tup, Bel_iff_agg, Bel_iff_rsl, Bel_val]; done))) | (fail_if_success (show Bel _ _)))) | ((first | apply gT | apply condT); (focus (simp only [go_sem, ↓reduceIte, Nat.reduceEqDiff, Nat.reduceBEq, Nat.reduceAdd, Nat.reduceLeDiff, Nat.reduceMul, Nat.reduceLT, Int.reduceToNat, reduceCtorEq, Int.reduceBEq, Int.reduceBNe, Int.reduceLT, Int.reduceLE, Int.reduceGT, Int.reduceGE, hs'] <;> rfl))) | ((first | (apply off; (exact rfl)) | apply condF); (focus (simp only [go_sem, ↓reduceIte, Nat.reduceEqDiff, Nat.reduceBEq, Nat.reduceAdd, Nat.reduceLeDiff, Nat.reduceMul, Nat.reduceLT, Int.reduceToNat, reduceCtorEq, Int.reduceBEq, Int.reduceBNe, Int.reduceLT, Int.reduceLE, Int.reduceGT, Int.reduceGE, hs'] <;> rfl))))
  refine Awp.loop (ι := Nat) (fun i T' H' => i ≤ l.length ∧ T' 16 = iv i ∧ T' 14 = .rsl (l.map Seen.cs) ex ∧ T' 15 = iv l.length ∧ T' 0 = .mptr s 0 0 ∧ find (conOne f l) 0 l.length = find (conOne f l) i (l.length - i) ∧ ∃ X, H' = H ++ X) (fun i => l.length - i) 0 ?_ ?_
  · refine ⟨by simp, ?_, ?_, ?_, ?_, rfl, [], by simp⟩ <;> simp only [go_sem, ↓reduceIte, Nat.reduceEqDiff, Nat.reduceBEq, Nat.reduceAdd, Nat.reduceLeDiff, Nat.reduceMul, Nat.reduceLT, Int.reduceToNat, reduceCtorEq, Int.reduceBEq, Int.reduceBNe, Int.reduceLT, Int.reduceLE, Int.reduceGT, Int.reduceGE] <;> rfl
  rintro i T' H' ⟨hi, h16, h14, h15, h0, hfind, X, rfl⟩
  repeat' (first | refine spD (fun _ => ?_) (fun _ => ?_) | refine spF (fun _ => ?_) (fun _ => ?_) | ((first | (apply stp0; (exact rfl); (exact rfl)) | (apply stpN0; (exact rfl))); (simp only [go_sem, ↓reduceIte, Nat.reduceEqDiff, Nat.reduceBEq, Nat.reduceAdd, Nat.reduceLeDiff, Nat.reduceMul, Nat.reduceLT, Int.reduceToNat, reduceCtorEq, Int.reduceBEq, Int.reduceBNe, Int.reduceLT, Int.reduceLE, Int.reduceGT, Int.reduceGE, h16, h14, h15, h0]; rfl); (first | exact okT | exact okN | exact okE rfl)) | (apply gT; (exact rfl)) | (apply off; (exact rfl); (exact rfl)) | refine thenQ_n ?_ | refine thenQ_r ?_ | refine thenQ_e ?_ | refine blockQ_n ?_ | refine blockQ_r ?_ | refine blockQ_e ?_ | (apply blockQ_o; (exact rfl)) | refine Awp.seq ?_ | refine Awp.skip ?_ | refine Awp.block ?_ | refine reg (fun s => s == 6 || s == 8 || s == 10) ?_ | (apply drwE mixed (fun s => s == 6 || s == 8 || s == 10); (kernel_rfl)) | refine fin ?_ | (apply condT; (exact rfl)) | (apply condF; (exact rfl)) | refine Awp.ret ?_ | refine Awp.exit ?_ | ((first | apply bodyQ_d0 | apply bodyQ_d1 | apply bodyQ_d2 | apply bodyQ_d3 | apply bodyQ_d4); (exact .inr rfl); (rw [Try.results50]; simp only [go_sem, ↓reduceIte, Nat.reduceEqDiff, Nat.reduceBEq, Nat.reduceAdd, Nat.reduceLeDiff, Nat.reduceMul, Nat.reduceLT, Int.reduceToNat, reduceCtorEq, Int.reduceBEq, Int.reduceBNe, Int.reduceLT, Int.reduceLE, Int.reduceGT, Int.reduceGE, h16, h14, h15, h0]; rfl); (first | (show Bel _ _; (focus first | exact .val _ | (simp [oneOf, Bel_iff_tup, Bel_iff_agg, Bel_iff_rsl, Bel_val]; done))) | (fail_if_success (show Bel _ _)))) | ((first | apply gT | apply condT); (focus (simp only [go_sem, ↓reduceIte, Nat.reduceEqDiff, Nat.reduceBEq, Nat.reduceAdd, Nat.reduceLeDiff, Nat.reduceMul, Nat.reduceLT, Int.reduceToNat, reduceCtorEq, Int.reduceBEq, Int.reduceBNe, Int.reduceLT, Int.reduceLE, Int.reduceGT, Int.reduceGE, h16, h14, h15, h0] <;> rfl))) | ((first | (apply off; (exact rfl)) | apply condF); (focus (simp only [go_sem, ↓reduceIte, Nat.reduceEqDiff, Nat.reduceBEq, Nat.reduceAdd, Nat.reduceLeDiff, Nat.reduceMul, Nat.reduceLT, Int.reduceToNat, reduceCtorEq, Int.reduceBEq, Int.reduceBNe, Int.reduceLT, Int.reduceLE, Int.reduceGT, Int.reduceGE, h16, h14, h15, h0] <;> rfl))))
  · rename_i hlt
    obtain ⟨a, ha⟩ := nth (show i < l.length by omega)
    have hx := nthMap Seen.cs ha
    rw [find_step (show i < l.length by omega)] at hfind
    repeat' (first | refine spD (fun _ => ?_) (fun _ => ?_) | refine spF (fun _ => ?_) (fun _ => ?_) | ((first | (apply stp0; (exact rfl); (exact rfl)) | (apply stpN0; (exact rfl))); (simp only [go_sem, ↓reduceIte, Nat.reduceEqDiff, Nat.reduceBEq, Nat.reduceAdd, Nat.reduceLeDiff, Nat.reduceMul, Nat.reduceLT, Int.reduceToNat, reduceCtorEq, Int.reduceBEq, Int.reduceBNe, Int.reduceLT, Int.reduceLE, Int.reduceGT, Int.reduceGE, h16, h14, h15, h0, hx, hs', Seen.cs]; rfl); (first | exact okT | exact okN | exact okE rfl)) | (apply gT; (exact rfl)) | (apply off; (exact rfl); (exact rfl)) | refine thenQ_n ?_ | refine thenQ_r ?_ | refine thenQ_e ?_ | refine blockQ_n ?_ | refine blockQ_r ?_ | refine blockQ_e ?_ | (apply blockQ_o; (exact rfl)) | refine Awp.seq ?_ | refine Awp.skip ?_ | refine Awp.block ?_ | refine reg (fun s => s == 6 || s == 8 || s == 10) ?_ | (apply drwE mixed (fun s => s == 6 || s == 8 || s == 10); (kernel_rfl)) | refine fin ?_ | (apply condT; (exact rfl)) | (apply condF; (exact rfl)) | refine Awp.ret ?_ | refine Awp.exit ?_ | ((first | apply bodyQ_d0 | apply bodyQ_d1 | apply bodyQ_d2 | apply bodyQ_d3 | apply bodyQ_d4); (exact .inr rfl); (rw [Try.results50]; simp only [go_sem, ↓reduceIte, Nat.reduceEqDiff, Nat.reduceBEq, Nat.reduceAdd, Nat.reduceLeDiff, Nat.reduceMul, Nat.reduceLT, Int.reduceToNat, reduceCtorEq, Int.reduceBEq, Int.reduceBNe, Int.reduceLT, Int.reduceLE, Int.reduceGT, Int.reduceGE, h16, h14, h15, h0, hx, hs', Seen.cs]; rfl); (first | (show Bel _ _; (focus first | exact .val _ | (simp [oneOf, Bel_iff_tup, Bel_iff_agg, Bel_iff_rsl, Bel_val]; done))) | (fail_if_success (show Bel _ _)))) | ((first | apply gT | apply condT); (focus (simp only [go_sem, ↓reduceIte, Nat.reduceEqDiff, Nat.reduceBEq, Nat.reduceAdd, Nat.reduceLeDiff, Nat.reduceMul, Nat.reduceLT, Int.reduceToNat, reduceCtorEq, Int.reduceBEq, Int.reduceBNe, Int.reduceLT, Int.reduceLE, Int.reduceGT, Int.reduceGE, h16, h14, h15, h0, hx, hs', Seen.cs] <;> rfl))) | ((first | (apply off; (exact rfl)) | apply condF); (focus (simp only [go_sem, ↓reduceIte, Nat.reduceEqDiff, Nat.reduceBEq, Nat.reduceAdd, Nat.reduceLeDiff, Nat.reduceMul, Nat.reduceLT, Int.reduceToNat, reduceCtorEq, Int.reduceBEq, Int.reduceBNe, Int.reduceLT, Int.reduceLE, Int.reduceGT, Int.reduceGE, h16, h14, h15, h0, hx, hs', Seen.cs] <;> rfl))))
    · have h1 : conOne f l i = true := by simp only [conOne, getD_of ha]; apply decide_eq_true; omega
      simp [oneOf, con, hfind, h1, conV]
    · have h1 : conOne f l i = true := by simp only [conOne, getD_of ha]; apply decide_eq_true; omega
      simp [oneOf, con, hfind, h1, conV]
    · have h1 : conOne f l i = false := by simp only [conOne, getD_of ha]; apply decide_eq_false; omega
      rw [h1] at hfind
      refine ⟨i + 1, ⟨by omega, ?_, ?_, ?_, ?_, by simpa using hfind, _, List.append_assoc ..⟩, by omega⟩
      · simp only [go_sem, ↓reduceIte, Nat.reduceEqDiff, Nat.reduceBEq, Nat.reduceAdd, Nat.reduceLeDiff, Nat.reduceMul, Nat.reduceLT, Int.reduceToNat, reduceCtorEq, Int.reduceBEq, Int.reduceBNe, Int.reduceLT, Int.reduceLE, Int.reduceGT, Int.reduceGE, wsucc (show i < l.length by omega) hlen]
      · simp only [go_sem, ↓reduceIte, Nat.reduceEqDiff, Nat.reduceBEq, Nat.reduceAdd, Nat.reduceLeDiff, Nat.reduceMul, Nat.reduceLT, Int.reduceToNat, reduceCtorEq, Int.reduceBEq, Int.reduceBNe, Int.reduceLT, Int.reduceLE, Int.reduceGT, Int.reduceGE, h14]
      · simp only [go_sem, ↓reduceIte, Nat.reduceEqDiff, Nat.reduceBEq, Nat.reduceAdd, Nat.reduceLeDiff, Nat.reduceMul, Nat.reduceLT, Int.reduceToNat, reduceCtorEq, Int.reduceBEq, Int.reduceBNe, Int.reduceLT, Int.reduceLE, Int.reduceGT, Int.reduceGE, h15]
      · simp only [go_sem, ↓reduceIte, Nat.reduceEqDiff, Nat.reduceBEq, Nat.reduceAdd, Nat.reduceLeDiff, Nat.reduceMul, Nat.reduceLT, Int.reduceToNat, reduceCtorEq, Int.reduceBEq, Int.reduceBNe, Int.reduceLT, Int.reduceLE, Int.reduceGT, Int.reduceGE, h0]
  rename_i hlt
  rw [find_end (by omega)] at hfind
  have hcon : con f l = find2 (conTwo f l) l.length 0 l.length := by simp only [con, hfind]
  rw [hcon]
  clear hlt hfind h14 h15 h16 hi
  repeat' (first | refine spD (fun _ => ?_) (fun _ => ?_) | refine spF (fun _ => ?_) (fun _ => ?_) | ((first | (apply stp0; (exact rfl); (exact rfl)) | (apply stpN0; (exact rfl))); (simp only [go_sem, ↓reduceIte, Nat.reduceEqDiff, Nat.reduceBEq, Nat.reduceAdd, Nat.reduceLeDiff, Nat.reduceMul, Nat.reduceLT, Int.reduceToNat, reduceCtorEq, Int.reduceBEq, Int.reduceBNe, Int.reduceLT, Int.reduceLE, Int.reduceGT, Int.reduceGE, h0, hs']; rfl); (first | exact okT | exact okN | exact okE rfl)) | (apply gT; (exact rfl)) | (apply off; (exact rfl); (exact rfl)) | refine thenQ_n ?_ | refine thenQ_r ?_ | refine thenQ_e ?_ | refine blockQ_n ?_ | refine blockQ_r ?_ | refine blockQ_e ?_ | (apply blockQ_o; (exact rfl)) | refine Awp.seq ?_ | refine Awp.skip ?_ | refine Awp.block ?_ | refine reg (fun s => s == 6 || s == 8 || s == 10) ?_ | (apply drwE mixed (fun s => s == 6 || s == 8 || s == 10); (kernel_rfl)) | refine fin ?_ | (apply condT; (exact rfl)) | (apply condF; (exact rfl)) | refine Awp.ret ?_ | refine Awp.exit ?_ | ((first | apply bodyQ_d0 | apply bodyQ_d1 | apply bodyQ_d2 | apply bodyQ_d3 | apply bodyQ_d4); (exact .inr rfl); (rw [Try.results50]; simp only [go_sem, ↓reduceIte, Nat.reduceEqDiff, Nat.reduceBEq, Nat.reduceAdd, Nat.reduceLeDiff, Nat.reduceMul, Nat.reduceLT, Int.reduceToNat, reduceCtorEq, Int.reduceBEq, Int.reduceBNe, Int.reduceLT, Int.reduceLE, Int.reduceGT, Int.reduceGE, h0, hs']; rfl); (first | (show Bel _ _; (focus first | exact .val _ | (simp [oneOf, Bel_iff_tup, Bel_iff_agg, Bel_iff_rsl, Bel_val]; done))) | (fail_if_success (show Bel _ _)))) | ((first | apply gT | apply condT); (focus (simp only [go_sem, ↓reduceIte, Nat.reduceEqDiff, Nat.reduceBEq, Nat.reduceAdd, Nat.reduceLeDiff, Nat.reduceMul, Nat.reduceLT, Int.reduceToNat, reduceCtorEq, Int.reduceBEq, Int.reduceBNe, Int.reduceLT, Int.reduceLE, Int.reduceGT, Int.reduceGE, h0, hs'] <;> rfl))) | ((first | (apply off; (exact rfl)) | apply condF); (focus (simp only [go_sem, ↓reduceIte, Nat.reduceEqDiff, Nat.reduceBEq, Nat.reduceAdd, Nat.reduceLeDiff, Nat.reduceMul, Nat.reduceLT, Int.reduceToNat, reduceCtorEq, Int.reduceBEq, Int.reduceBNe, Int.reduceLT, Int.reduceLE, Int.reduceGT, Int.reduceGE, h0, hs'] <;> rfl))))
  refine Awp.loop (ι := Nat) (fun i T' H' => i ≤ l.length ∧ T' 51 = iv i ∧ T' 49 = .rsl (l.map Seen.cs) ex ∧ T' 50 = iv l.length ∧ T' 0 = .mptr s 0 0 ∧ find2 (conTwo f l) l.length 0 l.length = find2 (conTwo f l) l.length i (l.length - i) ∧ ∃ X, H' = H ++ X) (fun i => l.length - i) 0 ?_ ?_
  · refine ⟨by simp, ?_, ?_, ?_, ?_, rfl, X, rfl⟩ <;> simp only [go_sem, ↓reduceIte, Nat.reduceEqDiff, Nat.reduceBEq, Nat.reduceAdd, Nat.reduceLeDiff, Nat.reduceMul, Nat.reduceLT, Int.reduceToNat, reduceCtorEq, Int.reduceBEq, Int.reduceBNe, Int.reduceLT, Int.reduceLE, Int.reduceGT, Int.reduceGE, h0] <;> rfl
  clear h0 X i T'
  rintro i T' H' ⟨hi, h51, h49, h50, h0, hfind, X, rfl⟩
  repeat' (first | refine spD (fun _ => ?_) (fun _ => ?_) | refine spF (fun _ => ?_) (fun _ => ?_) | ((first | (apply stp0; (exact rfl); (exact rfl)) | (apply stpN0; (exact rfl))); (simp only [go_sem, ↓reduceIte, Nat.reduceEqDiff, Nat.reduceBEq, Nat.reduceAdd, Nat.reduceLeDiff, Nat.reduceMul, Nat.reduceLT, Int.reduceToNat, reduceCtorEq, Int.reduceBEq, Int.reduceBNe, Int.reduceLT, Int.reduceLE, Int.reduceGT, Int.reduceGE, h51, h49, h50, h0]; rfl); (first | exact okT | exact okN | exact okE rfl)) | (apply gT; (exact rfl)) | (apply off; (exact rfl); (exact rfl)) | refine thenQ_n ?_ | refine thenQ_r ?_ | refine thenQ_e ?_ | refine blockQ_n ?_ | refine blockQ_r ?_ | refine blockQ_e ?_ | (apply blockQ_o; (exact rfl)) | refine Awp.seq ?_ | refine Awp.skip ?_ | refine Awp.block ?_ | refine reg (fun s => s == 6 || s == 8 || s == 10) ?_ | (apply drwE mixed (fun s => s == 6 || s == 8 || s == 10); (kernel_rfl)) | refine fin ?_ | (apply condT; (exact rfl)) | (apply condF; (exact rfl)) | refine Awp.ret ?_ | refine Awp.exit ?_ | ((first | apply bodyQ_d0 | apply bodyQ_d1 | apply bodyQ_d2 | apply bodyQ_d3 | apply bodyQ_d4); (exact .inr rfl); (rw [Try.results50]; simp only [go_sem, ↓reduceIte, Nat.reduceEqDiff, Nat.reduceBEq, Nat.reduceAdd, Nat.reduceLeDiff, Nat.reduceMul, Nat.reduceLT, Int.reduceToNat, reduceCtorEq, Int.reduceBEq, Int.reduceBNe, Int.reduceLT, Int.reduceLE, Int.reduceGT, Int.reduceGE, h51, h49, h50, h0]; rfl); (first | (show Bel _ _; (focus first | exact .val _ | (simp [oneOf, Bel_iff_tup, Bel_iff_agg, Bel_iff_rsl, Bel_val]; done))) | (fail_if_success (show Bel _ _)))) | ((first | apply gT | apply condT); (focus (simp only [go_sem, ↓reduceIte, Nat.reduceEqDiff, Nat.reduceBEq, Nat.reduceAdd, Nat.reduceLeDiff, Nat.reduceMul, Nat.reduceLT, Int.reduceToNat, reduceCtorEq, Int.reduceBEq, Int.reduceBNe, Int.reduceLT, Int.reduceLE, Int.reduceGT, Int.reduceGE, h51, h49, h50, h0] <;> rfl))) | ((first | (apply off; (exact rfl)) | apply condF); (focus (simp only [go_sem, ↓reduceIte, Nat.reduceEqDiff, Nat.reduceBEq, Nat.reduceAdd, Nat.reduceLeDiff, Nat.reduceMul, Nat.reduceLT, Int.reduceToNat, reduceCtorEq, Int.reduceBEq, Int.reduceBNe, Int.reduceLT, Int.reduceLE, Int.reduceGT, Int.reduceGE, h51, h49, h50, h0] <;> rfl))))
  · rename_i hlt
    obtain ⟨a, ha⟩ := nth (show i < l.length by omega)
    have hx := nthMap Seen.cs ha
    rw [find2_step (show i < l.length by omega)] at hfind
    repeat' (first | refine spD (fun _ => ?_) (fun _ => ?_) | refine spF (fun _ => ?_) (fun _ => ?_) | ((first | (apply stp0; (exact rfl); (exact rfl)) | (apply stpN0; (exact rfl))); (simp only [go_sem, ↓reduceIte, Nat.reduceEqDiff, Nat.reduceBEq, Nat.reduceAdd, Nat.reduceLeDiff, Nat.reduceMul, Nat.reduceLT, Int.reduceToNat, reduceCtorEq, Int.reduceBEq, Int.reduceBNe, Int.reduceLT, Int.reduceLE, Int.reduceGT, Int.reduceGE, h51, h49, h50, h0, hx, hs', Seen.cs]; rfl); (first | exact okT | exact okN | exact okE rfl)) | (apply gT; (exact rfl)) | (apply off; (exact rfl); (exact rfl)) | refine thenQ_n ?_ | refine thenQ_r ?_ | refine thenQ_e ?_ | refine blockQ_n ?_ | refine blockQ_r ?_ | refine blockQ_e ?_ | (apply blockQ_o; (exact rfl)) | refine Awp.seq ?_ | refine Awp.skip ?_ | refine Awp.block ?_ | refine reg (fun s => s == 6 || s == 8 || s == 10) ?_ | (apply drwE mixed (fun s => s == 6 || s == 8 || s == 10); (kernel_rfl)) | refine fin ?_ | (apply condT; (exact rfl)) | (apply condF; (exact rfl)) | refine Awp.ret ?_ | refine Awp.exit ?_ | ((first | apply bodyQ_d0 | apply bodyQ_d1 | apply bodyQ_d2 | apply bodyQ_d3 | apply bodyQ_d4); (exact .inr rfl); (rw [Try.results50]; simp only [go_sem, ↓reduceIte, Nat.reduceEqDiff, Nat.reduceBEq, Nat.reduceAdd, Nat.reduceLeDiff, Nat.reduceMul, Nat.reduceLT, Int.reduceToNat, reduceCtorEq, Int.reduceBEq, Int.reduceBNe, Int.reduceLT, Int.reduceLE, Int.reduceGT, Int.reduceGE, h51, h49, h50, h0, hx, hs', Seen.cs]; rfl); (first | (show Bel _ _; (focus first | exact .val _ | (simp [oneOf, Bel_iff_tup, Bel_iff_agg, Bel_iff_rsl, Bel_val]; done))) | (fail_if_success (show Bel _ _)))) | ((first | apply gT | apply condT); (focus (simp only [go_sem, ↓reduceIte, Nat.reduceEqDiff, Nat.reduceBEq, Nat.reduceAdd, Nat.reduceLeDiff, Nat.reduceMul, Nat.reduceLT, Int.reduceToNat, reduceCtorEq, Int.reduceBEq, Int.reduceBNe, Int.reduceLT, Int.reduceLE, Int.reduceGT, Int.reduceGE, h51, h49, h50, h0, hx, hs', Seen.cs] <;> rfl))) | ((first | (apply off; (exact rfl)) | apply condF); (focus (simp only [go_sem, ↓reduceIte, Nat.reduceEqDiff, Nat.reduceBEq, Nat.reduceAdd, Nat.reduceLeDiff, Nat.reduceMul, Nat.reduceLT, Int.reduceToNat, reduceCtorEq, Int.reduceBEq, Int.reduceBNe, Int.reduceLT, Int.reduceLE, Int.reduceGT, Int.reduceGE, h51, h49, h50, h0, hx, hs', Seen.cs] <;> rfl))))
    have hA := held (get_new (H ++ X) (.cells [[iv a.m, iv a.c, iv a.lo, iv a.hi]] 39))
    have hgood := hl a (List.mem_of_getElem? ha)
    refine Awp.loop (ι := Nat) (fun k T' H' => k ≤ l.length ∧ T' 61 = iv k ∧ T' 59 = .rsl (l.map Seen.cs) ex ∧ T' 60 = iv l.length ∧ T' 7 = iv i ∧ T' 8 = .mptr (H ++ X).length 0 0 ∧ T' 0 = .mptr s 0 0 ∧ T' 51 = iv i ∧ T' 49 = .rsl (l.map Seen.cs) ex ∧ T' 50 = iv l.length ∧
      find (conTwo f l i) 0 l.length = find (conTwo f l i) k (l.length - k) ∧ ∃ Y, H' = H ++ X ++ [.cells [[iv a.m, iv a.c, iv a.lo, iv a.hi]] 39] ++ Y) (fun k => l.length - k) 0 ?_ ?_
    · refine ⟨by simp, ?_, ?_, ?_, ?_, ?_, ?_, ?_, ?_, ?_, rfl, [], by simp⟩ <;> simp only [go_sem, ↓reduceIte, Nat.reduceEqDiff, Nat.reduceBEq, Nat.reduceAdd, Nat.reduceLeDiff, Nat.reduceMul, Nat.reduceLT, Int.reduceToNat, reduceCtorEq, Int.reduceBEq, Int.reduceBNe, Int.reduceLT, Int.reduceLE, Int.reduceGT, Int.reduceGE, h51, h49, h50, h0] <;> rfl
    clear h51 h49 h50 h0
    rintro k T' H' ⟨hk, h61, h59, h60, h7, h8, h0, h51, h49, h50, hfk, Y, rfl⟩
    repeat' (first | refine spD (fun _ => ?_) (fun _ => ?_) | refine spF (fun _ => ?_) (fun _ => ?_) | ((first | (apply stp0; (exact rfl); (exact rfl)) | (apply stpN0; (exact rfl))); (simp only [go_sem, ↓reduceIte, Nat.reduceEqDiff, Nat.reduceBEq, Nat.reduceAdd, Nat.reduceLeDiff, Nat.reduceMul, Nat.reduceLT, Int.reduceToNat, reduceCtorEq, Int.reduceBEq, Int.reduceBNe, Int.reduceLT, Int.reduceLE, Int.reduceGT, Int.reduceGE, h61, h59, h60, h51, h49, h50, h0]; rfl); (first | exact okT | exact okN | exact okE rfl)) | (apply gT; (exact rfl)) | (apply off; (exact rfl); (exact rfl)) | refine thenQ_n ?_ | refine thenQ_r ?_ | refine thenQ_e ?_ | refine blockQ_n ?_ | refine blockQ_r ?_ | refine blockQ_e ?_ | (apply blockQ_o; (exact rfl)) | refine Awp.seq ?_ | refine Awp.skip ?_ | refine Awp.block ?_ | refine reg (fun s => s == 6 || s == 8 || s == 10) ?_ | (apply drwE mixed (fun s => s == 6 || s == 8 || s == 10); (kernel_rfl)) | refine fin ?_ | (apply condT; (exact rfl)) | (apply condF; (exact rfl)) | refine Awp.ret ?_ | refine Awp.exit ?_ | ((first | apply bodyQ_d0 | apply bodyQ_d1 | apply bodyQ_d2 | apply bodyQ_d3 | apply bodyQ_d4); (exact .inr rfl); (rw [Try.results50]; simp only [go_sem, ↓reduceIte, Nat.reduceEqDiff, Nat.reduceBEq, Nat.reduceAdd, Nat.reduceLeDiff, Nat.reduceMul, Nat.reduceLT, Int.reduceToNat, reduceCtorEq, Int.reduceBEq, Int.reduceBNe, Int.reduceLT, Int.reduceLE, Int.reduceGT, Int.reduceGE, h61, h59, h60, h51, h49, h50, h0]; rfl); (first | (show Bel _ _; (focus first | exact .val _ | (simp [oneOf, Bel_iff_tup, Bel_iff_agg, Bel_iff_rsl, Bel_val]; done))) | (fail_if_success (show Bel _ _)))) | ((first | apply gT | apply condT); (focus (simp only [go_sem, ↓reduceIte, Nat.reduceEqDiff, Nat.reduceBEq, Nat.reduceAdd, Nat.reduceLeDiff, Nat.reduceMul, Nat.reduceLT, Int.reduceToNat, reduceCtorEq, Int.reduceBEq, Int.reduceBNe, Int.reduceLT, Int.reduceLE, Int.reduceGT, Int.reduceGE, h61, h59, h60, h51, h49, h50, h0] <;> rfl))) | ((first | (apply off; (exact rfl)) | apply condF); (focus (simp only [go_sem, ↓reduceIte, Nat.reduceEqDiff, Nat.reduceBEq, Nat.reduceAdd, Nat.reduceLeDiff, Nat.reduceMul, Nat.reduceLT, Int.reduceToNat, reduceCtorEq, Int.reduceBEq, Int.reduceBNe, Int.reduceLT, Int.reduceLE, Int.reduceGT, Int.reduceGE, h61, h59, h60, h51, h49, h50, h0] <;> rfl))))
    · rename_i hltk
      obtain ⟨b, hb⟩ := nth (show k < l.length by omega)
      have hy := nthMap Seen.cs hb
      have hgoodb := hl b (List.mem_of_getElem? hb)
      rw [find_step (show k < l.length by omega)] at hfk
      have hw : IntKind.i64.wrap (a.lo - b.hi) = a.lo - b.hi := by
        have h1 := hgood.2
        have h2 := hgoodb.2
        rw [Sp.bad_iff] at h1 h2
        simp only [Seen.set] at h1 h2
        exact w64 (by omega) (by omega)
      repeat' (first | refine spD (fun _ => ?_) (fun _ => ?_) | refine spF (fun _ => ?_) (fun _ => ?_) | ((first | (apply stp0; (exact rfl); (exact rfl)) | (apply stpN0; (exact rfl))); (simp only [go_sem, ↓reduceIte, Nat.reduceEqDiff, Nat.reduceBEq, Nat.reduceAdd, Nat.reduceLeDiff, Nat.reduceMul, Nat.reduceLT, Int.reduceToNat, reduceCtorEq, Int.reduceBEq, Int.reduceBNe, Int.reduceLT, Int.reduceLE, Int.reduceGT, Int.reduceGE, h61, h59, h60, h7, h8, h51, h49, h50, h0, hx, hy, hA, Seen.cs, hw]; rfl); (first | exact okT | exact okN | exact okE rfl)) | (apply gT; (exact rfl)) | (apply off; (exact rfl); (exact rfl)) | (apply calTo0; (exact rfl); (iterate 2 (simp only [go_sem, ↓reduceIte, Nat.reduceEqDiff, Nat.reduceBEq, Nat.reduceAdd, Nat.reduceLeDiff, Nat.reduceMul, Nat.reduceLT, Int.reduceToNat, reduceCtorEq, Int.reduceBEq, Int.reduceBNe, Int.reduceLT, Int.reduceLE, Int.reduceGT, Int.reduceGE, h61, h59, h60, h7, h8, h51, h49, h50, h0, hx, hy, hA, Seen.cs, hw]; rfl)); (first | exact away_ok _ s f hf [.rsl (l.map Seen.cs) ex, sets] 88 [] (hS.2.2.2.2.1 _ _ _ _) a.spot b.spot hgood.1 hgoodb.1); (first | exact okT | exact okN | exact okE rfl)) | refine thenQ_n ?_ | refine thenQ_r ?_ | refine thenQ_e ?_ | refine blockQ_n ?_ | refine blockQ_r ?_ | refine blockQ_e ?_ | (apply blockQ_o; (exact rfl)) | refine Awp.seq ?_ | refine Awp.skip ?_ | refine Awp.block ?_ | refine reg (fun s => s == 6 || s == 8 || s == 10) ?_ | (apply drwE mixed (fun s => s == 6 || s == 8 || s == 10); (kernel_rfl)) | refine fin ?_ | (apply condT; (exact rfl)) | (apply condF; (exact rfl)) | refine Awp.ret ?_ | refine Awp.exit ?_ | ((first | apply bodyQ_d0 | apply bodyQ_d1 | apply bodyQ_d2 | apply bodyQ_d3 | apply bodyQ_d4); (exact .inr rfl); (rw [Try.results50]; simp only [go_sem, ↓reduceIte, Nat.reduceEqDiff, Nat.reduceBEq, Nat.reduceAdd, Nat.reduceLeDiff, Nat.reduceMul, Nat.reduceLT, Int.reduceToNat, reduceCtorEq, Int.reduceBEq, Int.reduceBNe, Int.reduceLT, Int.reduceLE, Int.reduceGT, Int.reduceGE, h61, h59, h60, h7, h8, h51, h49, h50, h0, hx, hy, hA, Seen.cs, hw]; rfl); (first | (show Bel _ _; (focus first | exact .val _ | (simp [oneOf, Bel_iff_tup, Bel_iff_agg, Bel_iff_rsl, Bel_val]; done))) | (fail_if_success (show Bel _ _)))) | ((first | apply gT | apply condT); (focus (simp only [go_sem, ↓reduceIte, Nat.reduceEqDiff, Nat.reduceBEq, Nat.reduceAdd, Nat.reduceLeDiff, Nat.reduceMul, Nat.reduceLT, Int.reduceToNat, reduceCtorEq, Int.reduceBEq, Int.reduceBNe, Int.reduceLT, Int.reduceLE, Int.reduceGT, Int.reduceGE, h61, h59, h60, h7, h8, h51, h49, h50, h0, hx, hy, hA, Seen.cs, hw] <;> rfl))) | ((first | (apply off; (exact rfl)) | apply condF); (focus (simp only [go_sem, ↓reduceIte, Nat.reduceEqDiff, Nat.reduceBEq, Nat.reduceAdd, Nat.reduceLeDiff, Nat.reduceMul, Nat.reduceLT, Int.reduceToNat, reduceCtorEq, Int.reduceBEq, Int.reduceBNe, Int.reduceLT, Int.reduceLE, Int.reduceGT, Int.reduceGE, h61, h59, h60, h7, h8, h51, h49, h50, h0, hx, hy, hA, Seen.cs, hw] <;> rfl))))
      · rename_i hgt
        have h1 : conTwo f l i k = true := by simp only [conTwo, getD_of ha, getD_of hb]; exact decide_eq_true hgt
        rw [h1, if_pos rfl] at hfk
        rw [hfk] at hfind
        rw [hfind]; rfl
      · rename_i hgt
        have h1 : conTwo f l i k = false := by simp only [conTwo, getD_of ha, getD_of hb]; exact decide_eq_false hgt
        rw [h1, if_neg (by simp)] at hfk
        refine ⟨k + 1, ⟨by omega, ?_, ?_, ?_, ?_, ?_, ?_, ?_, ?_, ?_, hfk, _, List.append_assoc ..⟩, by omega⟩
        · simp only [go_sem, ↓reduceIte, Nat.reduceEqDiff, Nat.reduceBEq, Nat.reduceAdd, Nat.reduceLeDiff, Nat.reduceMul, Nat.reduceLT, Int.reduceToNat, reduceCtorEq, Int.reduceBEq, Int.reduceBNe, Int.reduceLT, Int.reduceLE, Int.reduceGT, Int.reduceGE, wsucc (show k < l.length by omega) hlen]
        · simp only [go_sem, ↓reduceIte, Nat.reduceEqDiff, Nat.reduceBEq, Nat.reduceAdd, Nat.reduceLeDiff, Nat.reduceMul, Nat.reduceLT, Int.reduceToNat, reduceCtorEq, Int.reduceBEq, Int.reduceBNe, Int.reduceLT, Int.reduceLE, Int.reduceGT, Int.reduceGE, h59]
        · simp only [go_sem, ↓reduceIte, Nat.reduceEqDiff, Nat.reduceBEq, Nat.reduceAdd, Nat.reduceLeDiff, Nat.reduceMul, Nat.reduceLT, Int.reduceToNat, reduceCtorEq, Int.reduceBEq, Int.reduceBNe, Int.reduceLT, Int.reduceLE, Int.reduceGT, Int.reduceGE, h60]
        · simp only [go_sem, ↓reduceIte, Nat.reduceEqDiff, Nat.reduceBEq, Nat.reduceAdd, Nat.reduceLeDiff, Nat.reduceMul, Nat.reduceLT, Int.reduceToNat, reduceCtorEq, Int.reduceBEq, Int.reduceBNe, Int.reduceLT, Int.reduceLE, Int.reduceGT, Int.reduceGE, h7]
        · simp only [go_sem, ↓reduceIte, Nat.reduceEqDiff, Nat.reduceBEq, Nat.reduceAdd, Nat.reduceLeDiff, Nat.reduceMul, Nat.reduceLT, Int.reduceToNat, reduceCtorEq, Int.reduceBEq, Int.reduceBNe, Int.reduceLT, Int.reduceLE, Int.reduceGT, Int.reduceGE, h8]
        · simp only [go_sem, ↓reduceIte, Nat.reduceEqDiff, Nat.reduceBEq, Nat.reduceAdd, Nat.reduceLeDiff, Nat.reduceMul, Nat.reduceLT, Int.reduceToNat, reduceCtorEq, Int.reduceBEq, Int.reduceBNe, Int.reduceLT, Int.reduceLE, Int.reduceGT, Int.reduceGE, h0]
        · simp only [go_sem, ↓reduceIte, Nat.reduceEqDiff, Nat.reduceBEq, Nat.reduceAdd, Nat.reduceLeDiff, Nat.reduceMul, Nat.reduceLT, Int.reduceToNat, reduceCtorEq, Int.reduceBEq, Int.reduceBNe, Int.reduceLT, Int.reduceLE, Int.reduceGT, Int.reduceGE, h51]
        · simp only [go_sem, ↓reduceIte, Nat.reduceEqDiff, Nat.reduceBEq, Nat.reduceAdd, Nat.reduceLeDiff, Nat.reduceMul, Nat.reduceLT, Int.reduceToNat, reduceCtorEq, Int.reduceBEq, Int.reduceBNe, Int.reduceLT, Int.reduceLE, Int.reduceGT, Int.reduceGE, h49]
        · simp only [go_sem, ↓reduceIte, Nat.reduceEqDiff, Nat.reduceBEq, Nat.reduceAdd, Nat.reduceLeDiff, Nat.reduceMul, Nat.reduceLT, Int.reduceToNat, reduceCtorEq, Int.reduceBEq, Int.reduceBNe, Int.reduceLT, Int.reduceLE, Int.reduceGT, Int.reduceGE, h50]
    · rw [find_end (by omega)] at hfk
      rw [hfk] at hfind
      repeat' (first | refine spD (fun _ => ?_) (fun _ => ?_) | refine spF (fun _ => ?_) (fun _ => ?_) | ((first | (apply stp0; (exact rfl); (exact rfl)) | (apply stpN0; (exact rfl))); (simp only [go_sem, ↓reduceIte, Nat.reduceEqDiff, Nat.reduceBEq, Nat.reduceAdd, Nat.reduceLeDiff, Nat.reduceMul, Nat.reduceLT, Int.reduceToNat, reduceCtorEq, Int.reduceBEq, Int.reduceBNe, Int.reduceLT, Int.reduceLE, Int.reduceGT, Int.reduceGE, h51, h49, h50, h0]; rfl); (first | exact okT | exact okN | exact okE rfl)) | (apply gT; (exact rfl)) | (apply off; (exact rfl); (exact rfl)) | refine thenQ_n ?_ | refine thenQ_r ?_ | refine thenQ_e ?_ | refine blockQ_n ?_ | refine blockQ_r ?_ | refine blockQ_e ?_ | (apply blockQ_o; (exact rfl)) | refine Awp.seq ?_ | refine Awp.skip ?_ | refine Awp.block ?_ | refine reg (fun s => s == 6 || s == 8 || s == 10) ?_ | (apply drwE mixed (fun s => s == 6 || s == 8 || s == 10); (kernel_rfl)) | refine fin ?_ | (apply condT; (exact rfl)) | (apply condF; (exact rfl)) | refine Awp.ret ?_ | refine Awp.exit ?_ | ((first | apply bodyQ_d0 | apply bodyQ_d1 | apply bodyQ_d2 | apply bodyQ_d3 | apply bodyQ_d4); (exact .inr rfl); (rw [Try.results50]; simp only [go_sem, ↓reduceIte, Nat.reduceEqDiff, Nat.reduceBEq, Nat.reduceAdd, Nat.reduceLeDiff, Nat.reduceMul, Nat.reduceLT, Int.reduceToNat, reduceCtorEq, Int.reduceBEq, Int.reduceBNe, Int.reduceLT, Int.reduceLE, Int.reduceGT, Int.reduceGE, h51, h49, h50, h0]; rfl); (first | (show Bel _ _; (focus first | exact .val _ | (simp [oneOf, Bel_iff_tup, Bel_iff_agg, Bel_iff_rsl, Bel_val]; done))) | (fail_if_success (show Bel _ _)))) | ((first | apply gT | apply condT); (focus (simp only [go_sem, ↓reduceIte, Nat.reduceEqDiff, Nat.reduceBEq, Nat.reduceAdd, Nat.reduceLeDiff, Nat.reduceMul, Nat.reduceLT, Int.reduceToNat, reduceCtorEq, Int.reduceBEq, Int.reduceBNe, Int.reduceLT, Int.reduceLE, Int.reduceGT, Int.reduceGE, h51, h49, h50, h0] <;> rfl))) | ((first | (apply off; (exact rfl)) | apply condF); (focus (simp only [go_sem, ↓reduceIte, Nat.reduceEqDiff, Nat.reduceBEq, Nat.reduceAdd, Nat.reduceLeDiff, Nat.reduceMul, Nat.reduceLT, Int.reduceToNat, reduceCtorEq, Int.reduceBEq, Int.reduceBNe, Int.reduceLT, Int.reduceLE, Int.reduceGT, Int.reduceGE, h51, h49, h50, h0] <;> rfl))))
      refine ⟨i + 1, ⟨by omega, ?_, ?_, ?_, ?_, hfind, X ++ ([.cells [[iv a.m, iv a.c, iv a.lo, iv a.hi]] 39] ++ Y), by simp only [List.append_assoc]⟩, by omega⟩
      · simp only [go_sem, ↓reduceIte, Nat.reduceEqDiff, Nat.reduceBEq, Nat.reduceAdd, Nat.reduceLeDiff, Nat.reduceMul, Nat.reduceLT, Int.reduceToNat, reduceCtorEq, Int.reduceBEq, Int.reduceBNe, Int.reduceLT, Int.reduceLE, Int.reduceGT, Int.reduceGE, wsucc (show i < l.length by omega) hlen]
      · simp only [go_sem, ↓reduceIte, Nat.reduceEqDiff, Nat.reduceBEq, Nat.reduceAdd, Nat.reduceLeDiff, Nat.reduceMul, Nat.reduceLT, Int.reduceToNat, reduceCtorEq, Int.reduceBEq, Int.reduceBNe, Int.reduceLT, Int.reduceLE, Int.reduceGT, Int.reduceGE, h49]
      · simp only [go_sem, ↓reduceIte, Nat.reduceEqDiff, Nat.reduceBEq, Nat.reduceAdd, Nat.reduceLeDiff, Nat.reduceMul, Nat.reduceLT, Int.reduceToNat, reduceCtorEq, Int.reduceBEq, Int.reduceBNe, Int.reduceLT, Int.reduceLE, Int.reduceGT, Int.reduceGE, h50]
      · simp only [go_sem, ↓reduceIte, Nat.reduceEqDiff, Nat.reduceBEq, Nat.reduceAdd, Nat.reduceLeDiff, Nat.reduceMul, Nat.reduceLT, Int.reduceToNat, reduceCtorEq, Int.reduceBEq, Int.reduceBNe, Int.reduceLT, Int.reduceLE, Int.reduceGT, Int.reduceGE, h0]
  · rw [find2_end (by omega)] at hfind
    repeat' (first | refine spD (fun _ => ?_) (fun _ => ?_) | refine spF (fun _ => ?_) (fun _ => ?_) | ((first | (apply stp0; (exact rfl); (exact rfl)) | (apply stpN0; (exact rfl))); (simp only [go_sem, ↓reduceIte, Nat.reduceEqDiff, Nat.reduceBEq, Nat.reduceAdd, Nat.reduceLeDiff, Nat.reduceMul, Nat.reduceLT, Int.reduceToNat, reduceCtorEq, Int.reduceBEq, Int.reduceBNe, Int.reduceLT, Int.reduceLE, Int.reduceGT, Int.reduceGE]; rfl); (first | exact okT | exact okN | exact okE rfl)) | (apply gT; (exact rfl)) | (apply off; (exact rfl); (exact rfl)) | refine thenQ_n ?_ | refine thenQ_r ?_ | refine thenQ_e ?_ | refine blockQ_n ?_ | refine blockQ_r ?_ | refine blockQ_e ?_ | (apply blockQ_o; (exact rfl)) | refine Awp.seq ?_ | refine Awp.skip ?_ | refine Awp.block ?_ | refine reg (fun s => s == 6 || s == 8 || s == 10) ?_ | (apply drwE mixed (fun s => s == 6 || s == 8 || s == 10); (kernel_rfl)) | refine fin ?_ | (apply condT; (exact rfl)) | (apply condF; (exact rfl)) | refine Awp.ret ?_ | refine Awp.exit ?_ | ((first | apply bodyQ_d0 | apply bodyQ_d1 | apply bodyQ_d2 | apply bodyQ_d3 | apply bodyQ_d4); (exact .inr rfl); (rw [Try.results50]; simp only [go_sem, ↓reduceIte, Nat.reduceEqDiff, Nat.reduceBEq, Nat.reduceAdd, Nat.reduceLeDiff, Nat.reduceMul, Nat.reduceLT, Int.reduceToNat, reduceCtorEq, Int.reduceBEq, Int.reduceBNe, Int.reduceLT, Int.reduceLE, Int.reduceGT, Int.reduceGE]; rfl); (first | (show Bel _ _; (focus first | exact .val _ | (simp [oneOf, Bel_iff_tup, Bel_iff_agg, Bel_iff_rsl, Bel_val]; done))) | (fail_if_success (show Bel _ _)))) | ((first | apply gT | apply condT); (focus (simp only [go_sem, ↓reduceIte, Nat.reduceEqDiff, Nat.reduceBEq, Nat.reduceAdd, Nat.reduceLeDiff, Nat.reduceMul, Nat.reduceLT, Int.reduceToNat, reduceCtorEq, Int.reduceBEq, Int.reduceBNe, Int.reduceLT, Int.reduceLE, Int.reduceGT, Int.reduceGE] <;> rfl))) | ((first | (apply off; (exact rfl)) | apply condF); (focus (simp only [go_sem, ↓reduceIte, Nat.reduceEqDiff, Nat.reduceBEq, Nat.reduceAdd, Nat.reduceLeDiff, Nat.reduceMul, Nat.reduceLT, Int.reduceToNat, reduceCtorEq, Int.reduceBEq, Int.reduceBNe, Int.reduceLT, Int.reduceLE, Int.reduceGT, Int.reduceGE] <;> rfl))))
    rw [hfind]; rfl

end Go.Proofs.Ytehagceghnjamaa.Ab
