/-
  Traces, plain: a loop unrolled. No conditions.
-/
import Derived.Test.YtljncoikoffijaaB4
namespace Go.Proofs.Ytljncoikoffijaa.Vm
open Go
set_option linter.unusedVariables false
set_option linter.unusedSimpArgs false
set_option maxRecDepth 200000

theorem Way.snoc {nx : List (List Int)} {u : List Int} {z : Int} (h : Way nx u) (h1 : 1 ≤ u.length) (hz : z ∈ nth nx (nth u (u.length - 1)).toNat) : Way nx (u ++ [z]) := by
  intro k hk
  rw [List.length_append, List.length_singleton] at hk
  rcases Nat.lt_or_ge (k + 1) u.length with c | c
  · rw [nth_app1 c, nth_app1 (by omega)]; exact h k c
  · have e : k + 1 = u.length := by omega
    rw [e, nth_last1, nth_app1 (by omega), show k = u.length - 1 by omega]; exact hz
theorem Way.take {nx : List (List Int)} {u : List Int} (h : Way nx u) (n : Nat) : Way nx (u.take n) := by
  intro k hk
  rw [List.length_take] at hk
  rw [nth_take (by omega), nth_take (by omega)]
  exact h k (by omega)
theorem Way.drop {nx : List (List Int)} {u : List Int} (h : Way nx u) (n : Nat) : Way nx (u.drop n) := by
  intro k hk
  rw [List.length_drop] at hk
  rw [nth_drop, nth_drop, show n + (k + 1) = n + k + 1 by omega]
  exact h (n + k) (by omega)
theorem trace_way {a : List Ints2} {b : List (List Int)} {s l : List Int} (h : TraceOk a b s l) : GraphOk a b ∧ 1 ≤ l.length ∧ nth (s ++ l) 0 = 0 ∧ Way b (s ++ l ++ [nth l 0]) := by
  obtain ⟨hP, h1, h2, h3, h4⟩ := h
  obtain ⟨g1, g2, g3, g4⟩ := hP.way
  exact ⟨g1, h1, h3, g2.snoc g3 (by rw [List.length_append]; exact h4)⟩
theorem trace_of {a : List Ints2} {b : List (List Int)} {s l : List Int} (hG : GraphOk a b) (h1 : 1 ≤ l.length) (h2 : s.length + l.length ≤ 8000) (h3 : nth (s ++ l) 0 = 0) (hw : Way b (s ++ l ++ [nth l 0])) : TraceOk a b s l := by
  have hg1 := hG.1
  have hl : (s ++ l).length = s.length + l.length := List.length_append
  have e : (s ++ l ++ [nth l 0]).take (s ++ l).length = s ++ l := List.take_left
  have hw2 : Way b (s ++ l) := by have := hw.take (s ++ l).length; rwa [e] at this
  refine ⟨hw2.path hG (by omega) (by rw [h3]; omega), h1, h2, h3, ?_⟩
  have := hw (s.length + l.length - 1) (by rw [List.length_append, List.length_singleton]; omega)
  rw [show s.length + l.length - 1 + 1 = (s ++ l).length by omega, nth_last1, nth_app1 (by omega)] at this
  exact this
theorem cons_drop {l : List Int} (h : 1 ≤ l.length) : nth l 0 :: l.drop 1 = l := by
  cases l with
  | nil => simp at h
  | cons x l => rfl
/-- The loop begins one later. -/
theorem trace_once {a : List Ints2} {b : List (List Int)} {s l : List Int} (h : TraceOk a b s l) (hl : s.length + l.length + 1 ≤ 8000) : TraceOk a b (s ++ [nth l 0]) (l.drop 1 ++ [nth l 0]) := by
  obtain ⟨hG, h1, h3, hw⟩ := trace_way h
  have e : s ++ [nth l 0] ++ (l.drop 1 ++ [nth l 0]) = s ++ l ++ [nth l 0] := by
    rw [List.append_assoc, List.append_assoc, ← List.append_assoc [nth l 0], List.singleton_append, cons_drop h1]
  have hsl : (s ++ l).length = s.length + l.length := List.length_append
  refine trace_of hG (by simp) (by simp; omega) ?_ ?_
  · rw [e, nth_app1 (by omega)]; exact h3
  · rw [e]
    refine hw.snoc (by rw [List.length_append, List.length_singleton]; omega) ?_
    have e2 : nth (s ++ l ++ [nth l 0]) ((s ++ l ++ [nth l 0]).length - 1) = nth l 0 := by
      rw [show (s ++ l ++ [nth l 0]).length - 1 = (s ++ l).length by simp, nth_last1]
    rw [e2]
    have hw3 := hw s.length (by rw [List.length_append, List.length_singleton]; omega)
    rw [List.append_assoc, nth_app2 (show s.length ≤ s.length + 1 by omega), nth_app2 (show s.length ≤ s.length by omega), Nat.sub_self, show s.length + 1 - s.length = 1 by omega, nth_app1 (show 0 < l.length from h1)] at hw3
    rcases Nat.lt_or_ge 1 l.length with c | c
    · rw [nth_app1 c] at hw3
      rw [nth_app1 (by rw [List.length_drop]; omega), nth_drop]
      exact hw3
    · have hl1 : l.length = 1 := by omega
      rw [nth_app2 (by omega), hl1] at hw3
      rw [nth_app2 (by rw [List.length_drop]; omega), List.length_drop, hl1]
      exact hw3
/-- The loop twice. -/
theorem trace_twice {a : List Ints2} {b : List (List Int)} {s l : List Int} (h : TraceOk a b s l) (hl : s.length + (l.length + l.length) ≤ 8000) : TraceOk a b s (l ++ l) := by
  obtain ⟨hG, h1, h3, hw⟩ := trace_way h
  have hsl : (s ++ l).length = s.length + l.length := List.length_append
  have hd : (s ++ l ++ [nth l 0]).drop s.length = l ++ [nth l 0] := by rw [List.append_assoc, List.drop_left]
  have hw2 : Way b (l ++ [nth l 0]) := by have := hw.drop s.length; rwa [hd] at this
  have e0 : nth (l ++ l) 0 = nth l 0 := nth_app1 h1
  refine trace_of hG (by rw [List.length_append]; omega) (by rw [List.length_append]; omega) ?_ ?_
  · rw [← List.append_assoc, nth_app1 (by omega)]; exact h3
  · rw [e0]
    have hj := hw.join hw2 (by rw [List.length_append, List.length_singleton]; omega) (by rw [List.length_append, List.length_singleton]; omega) (by
      rw [show (s ++ l ++ [nth l 0]).length - 1 = (s ++ l).length by simp, nth_last1, nth_app1 (show 0 < l.length from h1)])
    have e : s ++ l ++ [nth l 0] ++ (l ++ [nth l 0]).drop 1 = s ++ (l ++ l) ++ [nth l 0] := by
      rw [List.drop_append_of_le_length h1]
      have := cons_drop h1
      calc s ++ l ++ [nth l 0] ++ (l.drop 1 ++ [nth l 0]) = s ++ l ++ (nth l 0 :: l.drop 1) ++ [nth l 0] := by simp
        _ = s ++ l ++ l ++ [nth l 0] := by rw [this]
        _ = _ := by simp
    rw [← e]; exact hj
end Go.Proofs.Ytljncoikoffijaa.Vm

