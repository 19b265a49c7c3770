/-
  A list repeated, and its period. Plain lemmas; no conditions.
-/
import Derived.Test.YtlbbhkpjjciaiaaS5
namespace Go.Proofs.Ytlbbhkpjjciaiaa.Vm
open Go
set_option linter.unusedVariables false

/-- A list m times. -/
def rep (ys : List Int) (m : Nat) : List Int := (List.replicate m ys).flatten
theorem rep_len (ys : List Int) (m : Nat) : (rep ys m).length = m * ys.length := by simp [rep]
theorem rep_succ (ys : List Int) (m : Nat) : rep ys (m + 1) = ys ++ rep ys m := by simp [rep, List.replicate_succ]
theorem nth_app {xs ys : List Int} {i : Nat} : nth (xs ++ ys) i = if i < xs.length then nth xs i else nth ys (i - xs.length) := by
  unfold nth
  rw [List.getD_eq_getElem?_getD, List.getElem?_append]
  split <;> rw [List.getD_eq_getElem?_getD]
theorem nth_rep {ys : List Int} : ∀ {m i : Nat}, i < m * ys.length → nth (rep ys m) i = nth ys (i % ys.length)
  | 0, i, h => by simp at h
  | m + 1, i, h => by
    rw [rep_succ, nth_app]
    split
    · rename_i h1; rw [Nat.mod_eq_of_lt h1]
    · rename_i h1
      rw [Nat.succ_mul] at h
      rw [nth_rep (m := m) (by omega)]
      congr 1
      rw [← Nat.mod_eq_sub_mod (by omega)]
theorem nth_mod {xs : List Int} {n : Nat} (h0 : 0 < n) (h : ∀ i, n ≤ i → i < xs.length → nth xs i = nth xs (i - n)) : ∀ i, i < xs.length → nth xs i = nth xs (i % n) := by
  intro i
  induction i using Nat.strongRecOn with
  | _ i ih =>
    intro hi
    rcases Nat.lt_or_ge i n with h1 | h1
    · rw [Nat.mod_eq_of_lt h1]
    · rw [h i h1 hi, ih (i - n) (by omega) (by omega), ← Nat.mod_eq_sub_mod h1]
theorem rep_per {xs : List Int} {n : Nat} (h0 : 0 < n) (hn : n ≤ xs.length) (hd : xs.length % n = 0) :
    (rep (xs.take n) (xs.length / n) = xs) ↔ ∀ i, n ≤ i → i < xs.length → nth xs i = nth xs (i - n) := by
  have hl : (xs.take n).length = n := by simp; omega
  have hm : xs.length / n * n = xs.length := Nat.div_mul_cancel (Nat.dvd_of_mod_eq_zero hd)
  have hr : ∀ i, i < xs.length → nth (rep (xs.take n) (xs.length / n)) i = nth xs (i % n) := fun i hi => by
    rw [nth_rep (by rw [hl, hm]; exact hi), hl, nth_take (Nat.mod_lt _ h0)]
  constructor
  · intro h i h1 h2
    have e1 := hr i h2
    have e2 := hr (i - n) (by omega)
    rw [h] at e1 e2
    rw [e1, e2, Nat.mod_eq_sub_mod h1]
  · intro h
    apply List.ext_getElem (by rw [rep_len, hl, hm])
    intro i h1 h2
    rw [← nth_lt h1, ← nth_lt h2, hr i h2]
    exact (nth_mod h0 h i h2).symm
end Go.Proofs.Ytlbbhkpjjciaiaa.Vm

