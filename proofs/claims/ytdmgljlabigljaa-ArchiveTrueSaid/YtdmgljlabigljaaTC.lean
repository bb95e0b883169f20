/- Keys that are strings, and keys that are structs of three numbers. -/
import Derived.Test.YtdmgljlabigljaaTB
import Derived.Test.YtdmgljlabigljaaT0
namespace Go.Proofs.Ytdmgljlabigljaa.Ab
open Go Go.RowKit
set_option linter.unusedSimpArgs false

section
variable {P : Program} {kt : TypeId}
theorem byteArr_beq (a : ByteArray) : (a == a) = true := by rw [beq_toListBytes]; simp
theorem byteArr_dec (a b : ByteArray) : (a == b) = @decide (Value.string a = Value.string b) (Classical.propDecidable _) := by
  by_cases h : a = b
  · subst h; rw [byteArr_beq]; simp
  · have : (a == b) = false := by
      rw [beq_toListBytes, Bool.eq_false_iff]
      intro hc
      rw [beq_iff_eq, ByteArray.toList_eq, ByteArray.toList_eq] at hc
      apply h
      obtain ⟨⟨x⟩⟩ := a
      obtain ⟨⟨y⟩⟩ := b
      simp at hc
      rw [hc]
    rw [this]; simp [h]
theorem strKey (hu : P.underlying kt = some .string) : KeyRep P kt (fun s : ByteArray => AV.val (.string s)) Value.string where
  law := {
    check := fun e v w ⟨s, hs⟩ => by
      unfold Instr.checkKey
      simp only [Sem.run_bind, run_underlying hu, Result.andThen_ok]
      subst hs; rfl
    eq := fun u v w ⟨s, hs⟩ ⟨t, ht⟩ => by
      subst hs; subst ht
      rw [← byteArr_dec]
      unfold Op.equal Op.maxDepth
      rw [run_equalIn_string w 9999 kt s t hu, beq_toListBytes]
    under := ⟨.string, hu, fun u v ⟨s, hs⟩ ⟨t, ht⟩ => .inr (by subst hs; subst ht; rw [← byteArr_dec]; rfl)⟩
    bits := fun v ⟨s, hs⟩ => by subst hs; simp [Instr.sameBits, byteArr_beq] }
  to := fun g k v h => by cases h; rfl
  of := fun g k => .val _
  inj := fun a b h => by injection h

theorem valEq {g : Gh} {v x : Value} (h : R g (.val v) x) : x = v := by cases h; rfl
/-- a key of three numbers -/
abbrev K3 := Int × Int × Int
def k3A (k : K3) : AV := .agg [.val (.int .i64 k.1), .val (.int .i64 k.2.1), .val (.int .i64 k.2.2)]
def k3V (k : K3) : Value := .agg #[.int .i64 k.1, .int .i64 k.2.1, .int .i64 k.2.2]
theorem k3To {g : Gh} {k : K3} {v : Value} (h : R g (k3A k) v) : v = k3V k := by
  unfold k3A at h
  cases h with
  | agg hl hr =>
    rename_i vs
    have e : vs.toList = [.int .i64 k.1, .int .i64 k.2.1, .int .i64 k.2.2] := by
      refine List.ext_getElem? fun i => ?_
      match i with
      | 0 => have hlt : 0 < vs.size := by simp at hl; omega
             have := hr 0 _ vs[0] rfl (Array.getElem?_eq_getElem hlt); have := valEq this; simp [hlt] at this ⊢; exact this
      | 1 => have hlt : 1 < vs.size := by simp at hl; omega
             have := hr 1 _ vs[1] rfl (Array.getElem?_eq_getElem hlt); have := valEq this; simp [hlt] at this ⊢; exact this
      | 2 => have hlt : 2 < vs.size := by simp at hl; omega
             have := hr 2 _ vs[2] rfl (Array.getElem?_eq_getElem hlt); have := valEq this; simp [hlt] at this ⊢; exact this
      | n + 3 => simp at hl ⊢; omega
    unfold k3V
    congr 1
    exact Array.toList_inj.1 e
theorem k3Of (g : Gh) (k : K3) : R g (k3A k) (k3V k) := .agg rfl fun i c v hc hv => by
  match i with
  | 0 => simp at hc hv; subst hc; subst hv; exact .val _
  | 1 => simp at hc hv; subst hc; subst hv; exact .val _
  | 2 => simp at hc hv; subst hc; subst hv; exact .val _
  | n + 3 => simp at hc
theorem k3Inj {a b : K3} (h : k3V a = k3V b) : a = b := by
  unfold k3V at h
  injection h with h
  have := congrArg Array.toList h
  simp at this
  obtain ⟨a1, a2, a3⟩ := a
  obtain ⟨b1, b2, b3⟩ := b
  simp at this ⊢
  exact this
end

/-- the keys of the archive's table -/
theorem key77 : KeyRep Try.prog 77 k3A k3V where
  law := {
    check := fun e v w ⟨k, hk⟩ => by subst hk; kernel_rfl
    eq := fun u v w ⟨a, ha⟩ ⟨b, hb⟩ => by
      subst ha; subst hb
      have h : (Op.equal 77 (k3V a) (k3V b)).run Try.prog w = .ok (a.1 == b.1 && (a.2.1 == b.2.1 && (a.2.2 == b.2.2 && true))) w := by
        have h := eq77 a.1 b.1 a.2.1 b.2.1 a.2.2 b.2.2
        unfold aggEq at h
        simp only at h
        split at h
        · exact eqB_run (w := w) _ _ _ _ _ h
        · cases h
      have e : (a.1 == b.1 && (a.2.1 == b.2.1 && (a.2.2 == b.2.2 && true))) = @decide (k3V a = k3V b) (Classical.propDecidable _) := by
        by_cases h : a = b
        · subst h; simp
        · have h2 : ¬ k3V a = k3V b := fun h' => h (k3Inj h')
          simp only [h2, decide_false]
          rw [Bool.eq_false_iff]
          intro hc
          simp at hc
          exact h (Prod.ext hc.1 (Prod.ext hc.2.1 hc.2.2))
      rw [← e]; exact h
    under := ⟨_, Try.underlying77, fun u v _ _ => .inl (by rfl)⟩
    bits := fun v ⟨k, hk⟩ => by subst hk; simp [k3V, Instr.sameBits] }
  to := fun _ _ _ h => k3To h
  of := k3Of
  inj := fun _ _ h => k3Inj h

end Go.Proofs.Ytdmgljlabigljaa.Ab
