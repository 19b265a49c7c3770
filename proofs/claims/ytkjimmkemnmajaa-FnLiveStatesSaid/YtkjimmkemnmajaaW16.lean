/-
  FnExactShortestPath: the walk of the law. No conditions.
-/
import Derived.Test.YtkjimmkemnmajaaSp4
namespace Go.Proofs.Ytkjimmkemnmajaa.Vm
open Go
set_option linter.unusedVariables false
set_option linter.unusedSimpArgs false
set_option maxRecDepth 200000

theorem freshU {f : Hp} {a z : Nat} {u : List D} (h : upd f a (some u) z = none) : ¬ z = a ∧ f z = none := by
  by_cases e : z = a
  · subst e; rw [zaar] at h; cases h
  · rw [zaan e] at h; exact ⟨e, h⟩
theorem spL_len (a : List Ints2) (b : List (List Int)) (x y : Int) : (spL a b x y).length ≤ 1048577 := by
  by_cases h : PathAsk a b x y
  · rw [spL_yes h]
    obtain ⟨hG, h0, h1, h2, h3⟩ := h
    obtain ⟨n1, n2, n3, n4, n5⟩ := hG.next
    by_cases hy : y ∈ (bfsE b [x]).2
    · have hE := bfsE_ok n1 (Starts.one h0 (by omega : x < b.length))
      have hle := hE.le
      obtain ⟨m, hm, e⟩ := mem_idx hy
      rw [shW_goal n1 h0 (by omega) hy, ← e]
      have := backTo_len hE hm (f := (pmP (bfsE b [x]).1).length + 1) (by rw [pmP_len, hE.len]; omega)
      omega
    · rw [shW_out hy]; simp
  · rw [spL_no h]; simp

end Go.Proofs.Ytkjimmkemnmajaa.Vm

