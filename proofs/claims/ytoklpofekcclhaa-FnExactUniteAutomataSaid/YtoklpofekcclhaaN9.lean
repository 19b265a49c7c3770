/-
  LiveStates, both ways. No conditions.
-/
import Derived.Test.YtoklpofekcclhaaN8
namespace Go.Proofs.Ytoklpofekcclhaa.Vm
open Go
set_option linter.unusedVariables false
set_option linter.unusedSimpArgs false
set_option maxRecDepth 200000

theorem AutOk.rng {a : List Int} {n : Nat} {c : List Tr4} (h : AutOk a n c) : InRng n c := fun i hi => by
  obtain ⟨g1, g2, g3, g4, _⟩ := h.2.2.2.2 i hi
  exact ⟨⟨g1, g2⟩, g3, g4⟩
theorem AutOk.sizes {a : List Int} {n : Nat} {c : List Tr4} (h : AutOk a n c) : 1 ≤ n ∧ n ≤ 64 ∧ a.length ≤ n ∧ c.length ≤ 2048 := ⟨h.1, h.2.1, sorted_len h.2.2.1, h.2.2.2.1⟩
/-- The answer. -/
noncomputable def lsL (a : List Int) (b : List Bool) (c : List Tr4) : List Bool := if B (AutOk a b.length c) = true then livL (nxE b.length c c.length) b else []
theorem lsL_yes {a : List Int} {b : List Bool} {c : List Tr4} (h : B (AutOk a b.length c) = true) : lsL a b c = livL (nxE b.length c c.length) b := by rw [lsL, if_pos h]
theorem lsL_no {a : List Int} {b : List Bool} {c : List Tr4} (h : B (AutOk a b.length c) = false) : lsL a b c = [] := by rw [lsL, if_neg (by rw [h]; simp)]
theorem livL_same {n : Nat} {c : List Tr4} (hr : InRng n c) (acc : List Bool) : livL (nxD n c c.length) acc = livL (nxE n c c.length) acc := by
  have hs := nx_sameN hr
  unfold livL
  rw [← hs.1]
  apply List.map_congr_left
  intro i hi
  rw [List.mem_range] at hi
  rw [Bool.eq_iff_iff, B_iff, B_iff]
  exact (hs.liv (nxE_ok hr) (by intro s q; simp at q; subst q; exact ⟨by omega, by omega⟩)).symm
theorem lsL_len (a : List Int) (b : List Bool) (c : List Tr4) : (lsL a b c).length ≤ 64 := by
  cases h : B (AutOk a b.length c) with
  | true =>
    have h2 : AutOk a b.length c := by rw [B_iff] at h; exact h
    rw [lsL_yes h, livL_len, nxE_len _ _ _ (Nat.le_refl _)]; exact h2.2.1
  | false => rw [lsL_no h]; simp
theorem lsL_ne {a : List Int} {b : List Bool} {c : List Tr4} (h : AutOk a b.length c) : ¬ lsL a b c = [] := by
  intro e
  have e2 := congrArg List.length e
  rw [lsL_yes (B_yes h), livL_len, nxE_len _ _ _ (Nat.le_refl _), List.length_nil] at e2
  have := h.1
  omega
noncomputable def Γn12 : FuncId → Con := Γn11
attribute [go_sem] Γn12
theorem Γn12_ok : ∀ g, ConOk Try.prog g (Γn12 g) := Γn11_ok

noncomputable def Γn13 : FuncId → Con := Γn12
attribute [go_sem] Γn13
theorem Γn13_ok : ∀ g, ConOk Try.prog g (Γn13 g) := Γn12_ok
end Go.Proofs.Ytoklpofekcclhaa.Vm

