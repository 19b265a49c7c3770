/-
  LiveStates, both ways. No conditions.
-/
import Derived.Test.YtoklpofekcclhaaN7
namespace Go.Proofs.Ytoklpofekcclhaa.Vm
open Go
set_option linter.unusedVariables false
set_option linter.unusedSimpArgs false
set_option maxRecDepth 200000

/-- Reached, on a cycle, accepting. -/
def gd (nx : List (List Int)) (acc : List Bool) (s : Int) (i : Nat) : Prop := RchS nx [s] (i : Int) ∧ Cyc nx (i : Int) ∧ nth acc i = true
theorem gd_iff {nx : List (List Int)} {acc : List Bool} {s : Int} {i : Nat} (h : i < nx.length) : gd nx acc s i ↔ nth (rchL nx [s]) i = true ∧ nth (cycL nx) i = true ∧ nth acc i = true := by
  rw [nth_rchL h, nth_cycL h, B_iff, B_iff]; rfl
theorem gd_liv {nx : List (List Int)} {acc : List Bool} {s : Int} : (∃ i, i < nx.length ∧ gd nx acc s i) ↔ Liv nx acc [s] := by
  constructor
  · rintro ⟨i, h, h1, h2, h3⟩
    exact ⟨(i : Int), ⟨by omega, by omega⟩, h1, h2, by simpa using h3⟩
  · rintro ⟨x, h, h1, h2, h3⟩
    have e : ((x.toNat : Nat) : Int) = x := Int.toNat_of_nonneg h.1
    exact ⟨x.toNat, by have := h.1; have := h.2; omega, by rw [e]; exact h1, by rw [e]; exact h2, h3⟩
theorem nth_livL {nx : List (List Int)} {acc : List Bool} {i : Nat} (h : i < nx.length) : nth (livL nx acc) i = Vm.B (Liv nx acc [(i : Int)]) := by
  rw [nth_lt (by rw [livL_len]; exact h)]; simp [livL]
theorem prtB_set0 {xs : List Bool} {k : Nat} (h : k < xs.length) : (prtB xs k).set k false = prtB xs k := by
  obtain ⟨m, e⟩ : ∃ m, xs.length - k = m + 1 := ⟨xs.length - k - 1, by omega⟩
  rw [prtB, e, List.replicate_succ, set_mid (by simp; omega)]
/-- One state's answer under way. -/
structure LV (b5 j5 : Nat) (nx : List (List Int)) (acc : List Bool) (k j : Nat) (H : Hp) : Prop where
  w : ∃ v, H b5 = some (cat cB ((prtB (livL nx acc) k).set k v) ++ List.replicate j5 .any) ∧ (v = true ↔ ∃ i, i < j ∧ gd nx acc (k : Int) i)
theorem LV.next {b5 j5 : Nat} {nx : List (List Int)} {acc : List Bool} {k j : Nat} {H2 : Hp} {v v' : Bool} (h : v = true ↔ ∃ i, i < j ∧ gd nx acc (k : Int) i) (h2 : H2 b5 = some (cat cB (((prtB (livL nx acc) k).set k v).set k v') ++ List.replicate j5 .any)) (hv : v' = true ↔ v = true ∨ gd nx acc (k : Int) j) : LV b5 j5 nx acc k (j + 1) H2 := by
  refine ⟨v', by rw [h2, List.set_set], ?_⟩
  rw [hv, h]
  constructor
  · rintro (⟨i, h1, h2⟩ | q)
    · exact ⟨i, by omega, h2⟩
    · exact ⟨j, by omega, q⟩
  · rintro ⟨i, h1, h2⟩
    by_cases e : i = j
    · subst e; exact .inr h2
    · exact .inl ⟨i, by omega, h2⟩
noncomputable def Γn11 : FuncId → Con := Γn10
attribute [go_sem] Γn11
theorem Γn11_ok : ∀ g, ConOk Try.prog g (Γn11 g) := Γn10_ok
end Go.Proofs.Ytoklpofekcclhaa.Vm

