/-
  spec.l4Components; Components, both ways. No conditions.
-/
import Derived.Test.YtkjimmkemnmajaaJ6
import Derived.Test.YtkjimmkemnmajaaJ7
namespace Go.Proofs.Ytkjimmkemnmajaa.Vm
open Go
set_option linter.unusedVariables false
set_option linter.unusedSimpArgs false
set_option maxRecDepth 200000

theorem oL_snoc (xs : List (List Int)) (y : List Int) : cat oL xs ++ [.fr 1 y.length (cat cI y)] = cat oL (xs ++ [y]) := by rw [cat_append, cat_one]; rfl
theorem rchs_cat (nx : List (List Int)) (k : Nat) : cat oL (rchs nx k) ++ [.fr 1 (bfsE nx [(k : Int)]).2.length (cat cI (bfsE nx [(k : Int)]).2)] = cat oL (rchs nx (k + 1)) := by rw [oL_snoc, rchs_succ]
noncomputable def Γj2 : FuncId → Con := Γj1
attribute [go_sem] Γj2
theorem Γj2_ok : ∀ g, ConOk Try.prog g (Γj2 g) := Γj1_ok

noncomputable def cmL (a : List Ints2) (b : List (List Int)) : List Int := if B (GraphOk a b) = true then compsL b else []
theorem cmL_len (a : List Ints2) (b : List (List Int)) : (cmL a b).length ≤ 1048577 := by
  by_cases h : GraphOk a b
  · rw [cmL, if_pos (B_yes h)]
    obtain ⟨n1, n2, n3, n4, n5⟩ := h.next
    rw [compsL_len n1]; omega
  · rw [cmL, if_neg (by rw [B_no h]; simp)]; simp
theorem cmL_yes {a : List Ints2} {b : List (List Int)} (h : B (GraphOk a b) = true) : cmL a b = compsL b := by rw [cmL, if_pos h]
theorem cmL_no {a : List Ints2} {b : List (List Int)} (h : B (GraphOk a b) = false) : cmL a b = [] := by rw [cmL, if_neg (by rw [h]; simp)]
theorem cmL_ne {a : List Ints2} {b : List (List Int)} (h : GraphOk a b) : ¬ cmL a b = [] := by
  intro e
  have e2 := congrArg List.length e
  rw [cmL_yes (B_yes h), compsL_len h.next.1] at e2
  have h1 := h.next.2.2.1
  have h2 := h.1
  rw [List.length_nil] at e2
  omega
noncomputable def Γj3 : FuncId → Con := Γj2
attribute [go_sem] Γj3
theorem Γj3_ok : ∀ g, ConOk Try.prog g (Γj3 g) := Γj2_ok
noncomputable def Γj4 : FuncId → Con := Γj3
attribute [go_sem] Γj4
theorem Γj4_ok : ∀ g, ConOk Try.prog g (Γj4 g) := Γj3_ok
end Go.Proofs.Ytkjimmkemnmajaa.Vm

