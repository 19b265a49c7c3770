/-
  ShortestPath, both ways. No conditions.
-/
import Derived.Test.YtkjimmkemnmajaaSp3
namespace Go.Proofs.Ytkjimmkemnmajaa.Vm
open Go
set_option linter.unusedVariables false
set_option linter.unusedSimpArgs false
set_option maxRecDepth 200000

theorem GraphOk.next {a : List Ints2} {b : List (List Int)} (h : GraphOk a b) : NextOk b ∧ NextS b ∧ b.length = a.length ∧ a.length ≤ 60 ∧ b.length ≤ 1048576 := by
  obtain ⟨g1, g2, g3, g4, g5⟩ := h
  refine ⟨fun j hj k hk => ?_, fun j hj => ?_, g3, g2, by omega⟩
  · have := (g5 j hj).2 k hk
    omega
  · have := (g5 j hj).2.len
    omega
def PathAsk (a : List Ints2) (b : List (List Int)) (x y : Int) : Prop := GraphOk a b ∧ 0 ≤ x ∧ 0 ≤ y ∧ x < a.length ∧ y < a.length
noncomputable def spL (a : List Ints2) (b : List (List Int)) (x y : Int) : List Int := if B (PathAsk a b x y) = true then shW b [x] (fun z => decide (z = y)) else []
theorem spL_no {a : List Ints2} {b : List (List Int)} {x y : Int} (h : ¬ PathAsk a b x y) : spL a b x y = [] := by rw [spL, B_no h, if_neg (by simp)]
theorem spL_yes {a : List Ints2} {b : List (List Int)} {x y : Int} (h : PathAsk a b x y) : spL a b x y = shW b [x] (fun z => decide (z = y)) := by rw [spL, B_yes h, if_pos rfl]
theorem shW_goal {nx : List (List Int)} {x y : Int} (hx : NextOk nx) (h0 : 0 ≤ x) (h1 : x < nx.length) (h : y ∈ (bfsE nx [x]).2) : shW nx [x] (fun z => decide (z = y)) = backTo (pmP (bfsE nx [x]).1) x ((pmP (bfsE nx [x]).1).length + 1) y := by
  have hB := bfsE_ok hx (Starts.one h0 h1)
  obtain ⟨m, hm, e⟩ := mem_idx h
  have hlt := hB.le
  have hf : 0 ≤ findI (fun z => decide (z = y)) (bfsE nx [x]).2 := by
    rw [findI_ge]; exact ⟨m, hm, by simpa using e⟩
  obtain ⟨i, hi, e2⟩ : ∃ i, i < (bfsE nx [x]).2.length ∧ findI (fun z => decide (z = y)) (bfsE nx [x]).2 = i ∧ nth (bfsE nx [x]).2 i = y := by
    unfold findI at hf ⊢
    split at hf
    · rename_i i hi
      rw [List.findIdx?_eq_some_iff_getElem] at hi
      obtain ⟨q1, q2, _⟩ := hi
      exact ⟨i, q1, rfl, by rw [zaat q1]; simpa using q2⟩
    · omega
  rw [shW, e2.1, if_neg (by omega), Int.toNat_natCast, e2.2, ← e2.2, ← backTo_up hB i hi ((pmP (bfsE nx [x]).1).length + 1) (nx.length + 1) (by rw [pmP_len, hB.len]; omega) (by omega)]
theorem shW_out {nx : List (List Int)} {x y : Int} (h : ¬ y ∈ (bfsE nx [x]).2) : shW nx [x] (fun z => decide (z = y)) = [] := by
  have hf : ¬ 0 ≤ findI (fun z => decide (z = y)) (bfsE nx [x]).2 := by
    rw [findI_ge]; rintro ⟨i, hi, e⟩
    apply h; rw [mem_nth]; exact ⟨i, hi, by simpa using e⟩
  rw [shW, if_pos (by omega)]

noncomputable def Γs6 : FuncId → Con := Γs5
attribute [go_sem] Γs6
theorem Γs6_ok : ∀ g, ConOk Try.prog g (Γs6 g) := Γs5_ok

noncomputable def Γs7 : FuncId → Con := Γs6
attribute [go_sem] Γs7
theorem Γs7_ok : ∀ g, ConOk Try.prog g (Γs7 g) := Γs6_ok

noncomputable def Γs8 : FuncId → Con := Γs7
attribute [go_sem] Γs8
theorem Γs8_ok : ∀ g, ConOk Try.prog g (Γs8 g) := Γs7_ok
end Go.Proofs.Ytkjimmkemnmajaa.Vm

