/-
  impl.Automaton.accepts. No conditions.
-/
import Derived.Test.YtoklpofekcclhaaK2
namespace Go.Proofs.Ytoklpofekcclhaa.Vm
open Go
set_option linter.unusedVariables false
set_option linter.unusedSimpArgs false
set_option maxRecDepth 200000

theorem AutOk.starts {a : List Int} {n : Nat} {c : List Tr4} (h : AutOk a n c) {N : Nat} (hN : n ≤ N) : Starts N a := by
  have h1 := h.2.2.1
  have hge := sorted_ge (a := a) (k := a.length) (fun i hi => (h1 i hi).1)
  have hlt : ∀ i j, i < j → j < a.length → nth a i < nth a j := by
    intro i j hij
    induction j with
    | zero => omega
    | succ j ih =>
      intro hj
      have h2 := (h1 (j + 1) hj).1
      simp only [ahead] at h2
      by_cases e : i = j
      · subst e; exact h2
      · have := ih (by omega) (by omega); omega
  refine ⟨fun x hx => ?_, ?_⟩
  · obtain ⟨i, hi, rfl⟩ := mem_idx hx
    have := hge i hi
    have := (h1 i hi).2
    omega
  · rw [List.nodup_iff_pairwise_ne, List.pairwise_iff_getElem]
    intro i j hi hj hij e
    have := hlt i j hij hj
    rw [nth_lt hi, nth_lt hj] at this
    omega
/-- A place that is good. -/
def gdA (n : Nat) (acc : List Bool) (ss : List Int) (nx : List (List Int)) (i : Nat) : Prop := RchS nx ss (i : Int) ∧ Cyc nx (i : Int) ∧ nth acc (i % n) = true
theorem acp_none {n : Nat} {acc : List Bool} {ss : List Int} {nx : List (List Int)} (h : ∀ i, i < nx.length → ¬ gdA n acc ss nx i) : ¬ Acp n acc ss nx := fun ⟨x, x1, x2⟩ => h x x1 x2
noncomputable def Γk18 : FuncId → Con := Γk17
attribute [go_sem] Γk18
theorem Γk18_ok : ∀ g, ConOk Try.prog g (Γk18 g) := Γk17_ok
end Go.Proofs.Ytoklpofekcclhaa.Vm

