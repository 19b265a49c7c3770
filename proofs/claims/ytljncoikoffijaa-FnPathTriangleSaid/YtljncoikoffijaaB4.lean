/-
  Paths, plain: the triangle; prefixes; walks. No conditions.
-/
import Derived.Test.YtljncoikoffijaaB3
namespace Go.Proofs.Ytljncoikoffijaa.Vm
open Go
set_option linter.unusedVariables false
set_option linter.unusedSimpArgs false
set_option maxRecDepth 200000

theorem spL_ask {a : List Ints2} {b : List (List Int)} {x y : Int} (h : ¬ spL a b x y = []) : PathAsk a b x y := Classical.byContradiction fun q => h (spL_no q)
theorem nth_app2 {α : Type} [Inhabited α] {xs ys : List α} {i : Nat} (h : xs.length ≤ i) : nth (xs ++ ys) i = nth ys (i - xs.length) := by
  simp only [nth, List.getD_eq_getElem?_getD]; rw [List.getElem?_append_right h]
theorem Way.join {nx : List (List Int)} {u w : List Int} (hu : Way nx u) (hw : Way nx w) (h1 : 1 ≤ u.length) (h2 : 1 ≤ w.length) (e : nth u (u.length - 1) = nth w 0) : Way nx (u ++ w.drop 1) := by
  intro k hk
  rw [List.length_append, List.length_drop] at hk
  rcases Nat.lt_or_ge (k + 1) u.length with c | c
  · rw [nth_app1 c, nth_app1 (by omega)]; exact hu k c
  · rw [nth_app2 c, nth_drop]
    have hw' := hw (k + 1 - u.length) (by omega)
    rw [show 1 + (k + 1 - u.length) = k + 1 - u.length + 1 by omega]
    rcases Nat.lt_or_ge k u.length with d | d
    · have : k = u.length - 1 := by omega
      rw [nth_app1 d, this, e]
      rw [show k + 1 - u.length = 0 by omega] at hw'
      rw [show u.length - 1 + 1 - u.length + 1 = 1 by omega]
      exact hw'
    · rw [nth_app2 d, nth_drop, show 1 + (k - u.length) = k + 1 - u.length by omega]
      exact hw'
theorem tri (a : List Ints2) (b : List (List Int)) (x v y : Int) : spL a b x v = [] ∨ spL a b v y = [] ∨ (¬ spL a b x v = [] ∧ ¬ spL a b v y = [] ∧ ¬ spL a b x y = [] ∧ 0 < (spL a b x y).length ∧ (spL a b x y).length + 1 ≤ (spL a b x v).length + (spL a b v y).length) := by
  by_cases h1 : spL a b x v = []
  · exact .inl h1
  by_cases h2 : spL a b v y = []
  · exact .inr (.inl h2)
  obtain ⟨p1, p2, p3, p4⟩ := spL_way (spL_ask h1) h1
  obtain ⟨q1, q2, q3, q4⟩ := spL_way (spL_ask h2) h2
  have k1 := spL_ask h1
  have k2 := spL_ask h2
  have hA : PathAsk a b x y := ⟨k1.1, k1.2.1, k2.2.2.1, k1.2.2.2.1, k2.2.2.2.2⟩
  have hl : (spL a b x v ++ (spL a b v y).drop 1).length = (spL a b x v).length + ((spL a b v y).length - 1) := by rw [List.length_append, List.length_drop]
  have hj := p2.join q2 p1 q1 (by rw [p4, q3])
  have e0 : nth (spL a b x v ++ (spL a b v y).drop 1) 0 = x := by
    rw [nth_app1 (show 0 < (spL a b x v).length from p1)]; exact p3
  have e1 : nth (spL a b x v ++ (spL a b v y).drop 1) ((spL a b x v ++ (spL a b v y).drop 1).length - 1) = y := by
    rw [hl]
    rcases Nat.lt_or_ge 1 (spL a b v y).length with c | c
    · rw [nth_app2 (show (spL a b x v).length ≤ (spL a b x v).length + ((spL a b v y).length - 1) - 1 by omega), nth_drop, show 1 + ((spL a b x v).length + ((spL a b v y).length - 1) - 1 - (spL a b x v).length) = (spL a b v y).length - 1 by omega]
      exact q4
    · have c1 : (spL a b v y).length = 1 := by omega
      have q5 := q4
      rw [c1] at q5
      have q6 : v = y := q3.symm.trans q5
      rw [nth_app1 (show (spL a b x v).length + ((spL a b v y).length - 1) - 1 < (spL a b x v).length by omega), show (spL a b x v).length + ((spL a b v y).length - 1) - 1 = (spL a b x v).length - 1 by omega]
      exact p4.trans q6
  obtain ⟨s1, s2⟩ := spL_short hA hj e0 (by rw [hl]; omega) e1
  rw [hl] at s2
  refine .inr (.inr ⟨h1, h2, ?_, by omega, by omega⟩)
  intro e; rw [e] at s1; simp at s1
/-- A path is a walk in range. -/
theorem PathOk.way {a : List Ints2} {b : List (List Int)} {p : List Int} (h : PathOk a b p) : GraphOk a b ∧ Way b p ∧ 1 ≤ p.length ∧ ∀ i, i < p.length → 0 ≤ nth p i ∧ nth p i < a.length := by
  obtain ⟨h1, h2, h3⟩ := h
  refine ⟨h1, fun k hk => ?_, h2, fun i hi => ⟨(h3 i hi).1, (h3 i hi).2.1⟩⟩
  have := (h3 (k + 1) hk).2.2 (by omega)
  rwa [Nat.add_sub_cancel] at this
theorem Way.path {a : List Ints2} {b : List (List Int)} {p : List Int} (hG : GraphOk a b) (hw : Way b p) (h1 : 1 ≤ p.length) (h0 : 0 ≤ nth p 0 ∧ nth p 0 < a.length) : PathOk a b p := by
  obtain ⟨n1, n2, n3, n4, n5⟩ := hG.next
  have hr : ∀ i, i < p.length → 0 ≤ nth p i ∧ nth p i < a.length := by
    intro i
    induction i with
    | zero => intro _; exact h0
    | succ i ih =>
      intro hi
      obtain ⟨q1, q2⟩ := ih (by omega)
      have := hw i hi
      obtain ⟨k, k1, k2⟩ := mem_idx this
      have := n1 (nth p i).toNat (by omega) k k1
      rw [k2] at this
      omega
  refine ⟨hG, h1, fun i hi => ⟨(hr i hi).1, (hr i hi).2, fun c => ?_⟩⟩
  have := hw (i - 1) (by omega)
  rwa [show i - 1 + 1 = i by omega] at this
theorem PathOk.take {a : List Ints2} {b : List (List Int)} {p : List Int} (h : PathOk a b p) {k : Nat} (h1 : 1 ≤ k) (h2 : k ≤ p.length) : PathOk a b (p.take k) := by
  obtain ⟨g1, g2, g3⟩ := h
  refine ⟨g1, by rw [List.length_take]; omega, fun i hi => ?_⟩
  rw [List.length_take] at hi
  obtain ⟨q1, q2, q3⟩ := g3 i (by omega)
  unfold StepOk
  rw [nth_take (by omega)]
  refine ⟨q1, q2, fun c => ?_⟩
  rw [nth_take (by omega)]
  exact q3 c
/-- A path's ends have a path no longer. -/
theorem PathOk.short {a : List Ints2} {b : List (List Int)} {p : List Int} (h : PathOk a b p) : 1 ≤ (spL a b (nth p 0) (nth p (p.length - 1))).length ∧ (spL a b (nth p 0) (nth p (p.length - 1))).length ≤ p.length := by
  obtain ⟨g1, g2, g3, g4⟩ := h.way
  obtain ⟨r1, r2⟩ := g4 0 (by omega)
  obtain ⟨r3, r4⟩ := g4 (p.length - 1) (by omega)
  exact spL_short ⟨g1, r1, r3, r2, r4⟩ g2 rfl g3 rfl
/-- A shortest path is a path from its start to its end. -/
theorem spL_path {a : List Ints2} {b : List (List Int)} {x y : Int} (hn : ¬ spL a b x y = []) : PathOk a b (spL a b x y) ∧ nth (spL a b x y) 0 = x ∧ nth (spL a b x y) ((spL a b x y).length - 1) = y ∧ 1 ≤ (spL a b x y).length := by
  have hA := spL_ask hn
  obtain ⟨p1, p2, p3, p4⟩ := spL_way hA hn
  exact ⟨p2.path hA.1 p1 (by rw [p3]; exact ⟨hA.2.1, hA.2.2.2.1⟩), p3, p4, p1⟩
end Go.Proofs.Ytljncoikoffijaa.Vm

