/-
  Suffixes of suffixes. Plain lemmas; no conditions.
-/
import Derived.Test.YtlbbhkpjjciaiaaD6
namespace Go.Proofs.Ytlbbhkpjjciaiaa.Vm
open Go
set_option linter.unusedVariables false

/-- The list turned by t. -/
def rot (b : List Int) (t : Nat) : List Int := b.drop t ++ b.take t
theorem rot_len (b : List Int) (t : Nat) : (rot b t).length = b.length := by simp [rot]; omega
theorem nth_rot {b : List Int} {t j : Nat} (ht : t < b.length) (hj : j < b.length) : nth (rot b t) j = nth b ((t + j) % b.length) := by
  unfold rot
  rw [nth_app]
  simp only [List.length_drop]
  split
  · rw [nth_drop, Nat.mod_eq_of_lt (by omega)]
  · rw [nth_take (by omega)]
    congr 1
    rw [Nat.mod_eq_sub_mod (by omega), Nat.mod_eq_of_lt (by omega)]; omega
theorem rot_rot {b : List Int} {t s : Nat} (ht : t < b.length) (hs : s < b.length) : rot (rot b t) s = rot b ((t + s) % b.length) := by
  have h0 : 0 < b.length := by omega
  have hm : (t + s) % b.length < b.length := Nat.mod_lt _ h0
  apply List.ext_getElem (by rw [rot_len, rot_len, rot_len])
  intro j h1 h2
  have hj : j < b.length := by rw [rot_len] at h2; exact h2
  rw [← nth_lt h1, ← nth_lt h2, nth_rot (by rw [rot_len]; exact hs) (by rw [rot_len]; exact hj), rot_len, nth_rot ht (Nat.mod_lt _ h0), nth_rot hm hj]
  congr 1
  rw [Nat.add_mod_mod, Nat.mod_add_mod, Nat.add_assoc]
theorem letOk_rot {b : List Int} (h : LetOk b) (t : Nat) : LetOk (rot b t) := fun i hi => by
  have hm : ∀ x ∈ rot b t, 0 ≤ x ∧ x ≤ 7 := fun x hx => by
    have : x ∈ b := by
      rcases List.mem_append.1 hx with h | h
      · exact List.mem_of_mem_drop h
      · exact List.mem_of_mem_take h
    obtain ⟨j, hj, e⟩ := List.getElem_of_mem this
    rw [← e, ← nth_lt hj]; exact h j hj
  rw [nth_lt hi]; exact hm _ (List.getElem_mem hi)
theorem letOk_drop {b : List Int} (h : LetOk b) (t : Nat) : LetOk (b.drop t) := fun i hi => by
  rw [nth_drop]; exact h _ (by simp at hi; omega)
/-- The suffix from i on: its stem and its loop. -/
def sfS (a b : List Int) (i : Int) : List Int := if i < a.length then a.drop i.toNat else []
def sfL (a b : List Int) (i : Int) : List Int := if i < a.length then b else rot b (turn a b i)
theorem suf_valid {a b : List Int} {i : Int} (h : LasOk a b) : LasOk (sfS a b i) (sfL a b i) := by
  obtain ⟨h1, h2, h3, h4, h5⟩ := h
  unfold sfS sfL
  split
  · exact ⟨letOk_drop h1 _, h2, by simp; omega, h4, h5⟩
  · exact ⟨fun i hi => by simp at hi, letOk_rot h2 _, by simp, by rw [rot_len]; exact h4, by rw [rot_len]; exact h5⟩
theorem turn_nat {a b : List Int} {i : Int} (hi : (a.length : Int) ≤ i) : turn a b i = (i.toNat - a.length) % b.length := by
  unfold turn
  have : i - a.length = ((i.toNat - a.length : Nat) : Int) := by omega
  rw [this, tmod_nat, Int.toNat_natCast]
theorem suf_suf {a b : List Int} {i k : Int} (h : LasOk a b) (hi : 0 ≤ i) (hk : 0 ≤ k) : sfS a b (i + k) = sfS (sfS a b i) (sfL a b i) k ∧ sfL a b (i + k) = sfL (sfS a b i) (sfL a b i) k := by
  obtain ⟨h1, h2, h3, h4, h5⟩ := h
  by_cases c1 : i < (a.length : Int)
  · have e1 : sfS a b i = a.drop i.toNat := by rw [sfS, if_pos c1]
    have e2 : sfL a b i = b := by rw [sfL, if_pos c1]
    rw [e1, e2]
    have hl : ((a.drop i.toNat).length : Int) = a.length - i := by simp; omega
    by_cases c2 : i + k < (a.length : Int)
    · have c3 : k < ((a.drop i.toNat).length : Int) := by omega
      rw [sfS, sfS, sfL, sfL, if_pos c2, if_pos c3, if_pos c2, if_pos c3, List.drop_drop]
      exact ⟨by congr 1; omega, rfl⟩
    · have c3 : ¬ k < ((a.drop i.toNat).length : Int) := by omega
      rw [sfS, sfS, sfL, sfL, if_neg c2, if_neg c3, if_neg c2, if_neg c3]
      refine ⟨rfl, ?_⟩
      congr 1
      rw [turn_nat (by omega), turn_nat (by omega)]
      congr 1
      have : (a.drop i.toNat).length = a.length - i.toNat := by simp
      omega
  · have e1 : sfS a b i = [] := by rw [sfS, if_neg c1]
    have e2 : sfL a b i = rot b (turn a b i) := by rw [sfL, if_neg c1]
    have c2 : ¬ i + k < (a.length : Int) := by omega
    have c3 : ¬ k < (([] : List Int).length : Int) := by simp; omega
    rw [e1, e2, sfS, sfS, sfL, sfL, if_neg c2, if_neg c3, if_neg c2, if_neg c3]
    refine ⟨rfl, ?_⟩
    rw [turn_nat (a := []) (by simp; omega), turn_nat (a := a) (i := i) (by omega), turn_nat (a := a) (i := i + k) (by omega), rot_len, rot_rot (Nat.mod_lt _ (by omega)) (Nat.mod_lt _ (by omega))]
    congr 1
    rw [Nat.mod_add_mod, Nat.add_mod_mod]
    congr 1
    simp; omega
theorem suf_letter {a b : List Int} {i k : Int} (h : LasOk a b) (hi : 0 ≤ i) (hk : 0 ≤ k) : letter (sfS a b i) (sfL a b i) k = letter a b (i + k) := by
  obtain ⟨h1, h2, h3, h4, h5⟩ := h
  by_cases c1 : i < (a.length : Int)
  · have e1 : sfS a b i = a.drop i.toNat := by rw [sfS, if_pos c1]
    have e2 : sfL a b i = b := by rw [sfL, if_pos c1]
    rw [e1, e2]
    have hl : ((a.drop i.toNat).length : Int) = a.length - i := by simp; omega
    by_cases c2 : i + k < (a.length : Int)
    · have c3 : k < ((a.drop i.toNat).length : Int) := by omega
      rw [letter, letter, if_pos c2, if_pos c3, nth_drop]
      congr 1; omega
    · have c3 : ¬ k < ((a.drop i.toNat).length : Int) := by omega
      rw [letter, letter, if_neg c2, if_neg c3]
      congr 1
      rw [turn_nat (by omega), turn_nat (by omega)]
      congr 1
      have : (a.drop i.toNat).length = a.length - i.toNat := by simp
      omega
  · have e1 : sfS a b i = [] := by rw [sfS, if_neg c1]
    have e2 : sfL a b i = rot b (turn a b i) := by rw [sfL, if_neg c1]
    have c2 : ¬ i + k < (a.length : Int) := by omega
    have c3 : ¬ k < (([] : List Int).length : Int) := by simp; omega
    have hb : 0 < b.length := by omega
    rw [e1, e2, letter, letter, if_neg c2, if_neg c3, turn_nat (a := []) (by simp; omega), turn_nat (a := a) (i := i) (by omega), turn_nat (a := a) (i := i + k) (by omega), rot_len, nth_rot (Nat.mod_lt _ hb) (Nat.mod_lt _ hb)]
    congr 1
    rw [Nat.mod_add_mod, Nat.add_mod_mod]
    congr 1
    simp; omega
theorem same_self {a b : List Int} (h : LasOk a b) : B (Same a b a b) = true := B_yes ⟨h, h, rfl, rfl⟩
end Go.Proofs.Ytlbbhkpjjciaiaa.Vm

