/-
  Traces. No conditions.
-/
import Derived.Test.YtkjimmkemnmajaaF6
namespace Go.Proofs.Ytkjimmkemnmajaa.Vm
open Go
set_option linter.unusedVariables false
set_option linter.unusedSimpArgs false
set_option maxRecDepth 200000

def TraceOk (a : List Ints2) (b : List (List Int)) (s l : List Int) : Prop :=
  PathOk a b (s ++ l) ∧ 1 ≤ l.length ∧ s.length + l.length ≤ 8000 ∧ nth (s ++ l) 0 = 0 ∧ nth l 0 ∈ nth b (nth (s ++ l) (s.length + l.length - 1)).toNat
theorem last_app {s l : List Int} (h : 0 < l.length) : nth (s ++ l) (s.length + l.length - 1) = nth l (l.length - 1) := by
  rw [zaat (by simp; omega), zaat (by omega), List.getElem_append_right (by omega)]
  congr 1; omega
theorem trace_facts {a : List Ints2} {b : List (List Int)} {s l : List Int} (h : PathOk a b (s ++ l)) (hl : 0 < l.length) :
    0 ≤ nth (s ++ l) (s.length + l.length - 1) ∧ nth (s ++ l) (s.length + l.length - 1) < b.length ∧ (nth (s ++ l) (s.length + l.length - 1)).toNat < b.length := by
  obtain ⟨hG, h1, h2⟩ := h
  have := h2 (s.length + l.length - 1) (by simp; omega)
  have e := hG.2.2.1
  obtain ⟨q1, q2, _⟩ := this
  omega

noncomputable def Γ49 : FuncId → Con := Γ48
attribute [go_sem] Γ49
theorem Γ49_ok : ∀ g, ConOk Try.prog g (Γ49 g) := Γ48_ok

theorem impl_facts {a : List Ints2} {b : List (List Int)} {s l : List Int} (hP : PathOk a b (s ++ l)) (hl : 0 < l.length) (h8 : s.length + l.length ≤ 8000) :
    (0 ≤ nth l (l.length - 1) ∧ nth l (l.length - 1) < b.length ∧ (nth l (l.length - 1)).toNat < b.length ∧ ¬ b = [] ∧ 0 < b.length - (nth l (l.length - 1)).toNat) ∧
    (IntKind.i64.wrap ((l.length : Int) - 1) = (l.length : Int) - 1 ∧ ((l.length : Int) - 1).toNat = l.length - 1 ∧ (0 : Int) ≤ (l.length : Int) - 1 ∧ (0 : Int) < (l.length : Int) ∧ (l.length : Int) - 1 < l.length ∧ l.length - 1 < l.length ∧ 0 < l.length - (l.length - 1)) ∧
    (0 < s.length + l.length ∧ (1 : Int) ≤ (l.length : Int) ∧ (0 : Int) < (s.length : Int) + (l.length : Int) ∧ 1 ≤ l.length) := by
  obtain ⟨q1, q2, q3⟩ := trace_facts hP hl
  rw [last_app hl] at q1 q2 q3
  refine ⟨⟨q1, q2, q3, zaau q3, Nat.sub_pos_of_lt q3⟩, ⟨wrap_in (by omega) (by omega), by omega, by omega, by omega, by omega, by omega, by omega⟩, by omega, by omega, by omega, by omega⟩
noncomputable def Γ50 : FuncId → Con := Γ49
attribute [go_sem] Γ50
theorem Γ50_ok : ∀ g, ConOk Try.prog g (Γ50 g) := Γ49_ok
end Go.Proofs.Ytkjimmkemnmajaa.Vm

