/-
  Paths; partitions: both ways. No conditions.
-/
import Derived.Test.YtkjimmkemnmajaaF4
namespace Go.Proofs.Ytkjimmkemnmajaa.Vm
open Go
set_option linter.unusedVariables false
set_option linter.unusedSimpArgs false
set_option maxRecDepth 200000

def StepOk (a : List Ints2) (b : List (List Int)) (p : List Int) (i : Nat) : Prop := 0 ≤ nth p i ∧ nth p i < a.length ∧ (0 < i → nth p i ∈ nth b (nth p (i - 1)).toNat)
def PathOk (a : List Ints2) (b : List (List Int)) (p : List Int) : Prop := GraphOk a b ∧ 1 ≤ p.length ∧ ∀ i, i < p.length → StepOk a b p i

theorem path_facts {a : List Ints2} {b : List (List Int)} {p : List Int} {k : Nat} (hG : GraphOk a b) (ht : AllTill (StepOk a b p) k) (hk : k < p.length) :
    b.length = a.length ∧ k - 1 < p.length ∧ (0 < k → 0 ≤ nth p (k - 1)) ∧ (0 < k → nth p (k - 1) < b.length) ∧ (0 < k → (nth p (k - 1)).toNat < b.length) ∧ (0 < k → (0 : Int) ≤ (k : Int) - 1) ∧ (k : Int) - 1 < p.length ∧ (0 < k → 0 < b.length - (nth p (k - 1)).toNat) ∧ ¬ b = [] := by
  obtain ⟨g1, g2, g3, _⟩ := hG
  have q1 : 0 < k → 0 ≤ nth p (k - 1) := fun h => (ht (k - 1) (by omega)).1
  have q2 : 0 < k → nth p (k - 1) < b.length := fun h => by
    have := (ht (k - 1) (by omega)).2.1
    omega
  have q3 : 0 < k → (nth p (k - 1)).toNat < b.length := fun h => by
    have := q1 h
    have := q2 h
    omega
  exact ⟨g3, by omega, q1, q2, q3, fun h => by omega, by omega, fun h => by have := q3 h; omega, by rintro rfl; simp at g3; omega⟩
noncomputable def Γ41 : FuncId → Con := Γ40
attribute [go_sem] Γ41
theorem Γ41_ok : ∀ g, ConOk Try.prog g (Γ41 g) := Γ40_ok

noncomputable def Γ42 : FuncId → Con := Γ41
attribute [go_sem] Γ42
theorem Γ42_ok : ∀ g, ConOk Try.prog g (Γ42 g) := Γ41_ok

def most (xs : List Int) : Nat → Int
  | 0 => 0
  | k + 1 => if nth xs k = most xs k then most xs k + 1 else most xs k
theorem most_bd (xs : List Int) : ∀ k, 0 ≤ most xs k ∧ most xs k ≤ k
  | 0 => by simp [most]
  | k + 1 => by have := most_bd xs k; simp only [most]; split <;> omega
def PartOk (xs : List Int) : Prop := ∀ i, i < xs.length → 0 ≤ nth xs i ∧ nth xs i ≤ most xs i

noncomputable def Γ43 : FuncId → Con := Γ42
attribute [go_sem] Γ43
theorem Γ43_ok : ∀ g, ConOk Try.prog g (Γ43 g) := Γ42_ok

noncomputable def Γ44 : FuncId → Con := Γ43
attribute [go_sem] Γ44
theorem Γ44_ok : ∀ g, ConOk Try.prog g (Γ44 g) := Γ43_ok

noncomputable def Γ45 : FuncId → Con := Γ44
attribute [go_sem] Γ45
theorem Γ45_ok : ∀ g, ConOk Try.prog g (Γ45 g) := Γ44_ok
end Go.Proofs.Ytkjimmkemnmajaa.Vm

