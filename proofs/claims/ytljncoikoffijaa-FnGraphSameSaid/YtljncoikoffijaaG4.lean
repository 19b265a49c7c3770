/-
  Lists of lists marked. No conditions.
-/
import Derived.Test.YtljncoikoffijaaG3
namespace Go.Proofs.Ytljncoikoffijaa.Vm
open Go
set_option linter.unusedVariables false
set_option linter.unusedSimpArgs false
set_option maxRecDepth 200000

theorem cell_LL {xs : List (List Int)} {i : Nat} (h : i < xs.length) (junk : List D) : (cat oL xs ++ junk)[i]? = some (.fr 1 (nth xs i).length (cat cI (nth xs i))) := by
  have e : (cat oL xs ++ junk).drop i = cat oL (xs.drop i) ++ junk := by
    rw [List.drop_append_of_le_length (by rw [cat_length]; omega), cat_drop1]
  have e2 : (cat oL xs ++ junk)[i]? = ((cat oL xs ++ junk).drop i)[0]? := by rw [List.getElem?_drop]; rfl
  rw [e2, e, cat_split h]
  rfl
theorem cell_PP0 {xs : List Ints2} {i : Nat} (h : i < xs.length) (junk : List D) : (cat oP xs ++ junk)[i * 2]? = some (.fr 1 (nth xs i).1.length (cat cI (nth xs i).1)) := by
  have e : (cat oP xs ++ junk).drop (i * 2) = cat oP (xs.drop i) ++ junk := by
    rw [List.drop_append_of_le_length (by rw [cat_length]; omega), cat_drop]
  have e2 : (cat oP xs ++ junk)[i * 2]? = ((cat oP xs ++ junk).drop (i * 2))[0]? := by rw [List.getElem?_drop]; rfl
  rw [e2, e, cat_split h]
  rfl
theorem cell_PP1 {xs : List Ints2} {i : Nat} (h : i < xs.length) (junk : List D) : (cat oP xs ++ junk)[i * 2 + 1]? = some (.fr 1 (nth xs i).2.length (cat cI (nth xs i).2)) := by
  have e : (cat oP xs ++ junk).drop (i * 2) = cat oP (xs.drop i) ++ junk := by
    rw [List.drop_append_of_le_length (by rw [cat_length]; omega), cat_drop]
  have e2 : (cat oP xs ++ junk)[i * 2 + 1]? = ((cat oP xs ++ junk).drop (i * 2))[1]? := by rw [List.getElem?_drop]
  rw [e2, e, cat_split h]
  rfl
/-- A cell replaced, then put back. -/
theorem set_back {A : List D} {i : Nat} {d : D} (h : i < A.length) (e : D) : (A.set i e).set i d = A.set i d := by simp
/-- What the marking of one list needs to know. -/
theorem step_LL (k : Int) {xs : List (List Int)} {i : Nat} (h : i < xs.length) (junk : List D) (d : D) :
    ∃ A : List D, (cat oL (ptLL k xs i) ++ junk).set i d = A ∧ A.length = xs.length + junk.length ∧ A[i]? = some d ∧
      A.set i (.fr 1 (nth xs i).length (cat cI (marks (k + msum mL xs i) (nth xs i).length))) = cat oL (ptLL k xs (i + 1)) ++ junk := by
  have l1 : (cat oL (ptLL k xs i) ++ junk).length = xs.length + junk.length := by rw [List.length_append, cat_length, ptLL_len k (by omega)]; omega
  refine ⟨_, rfl, by rw [List.length_set]; exact l1, by rw [List.getElem?_set_self (by omega)], ?_⟩
  rw [List.set_set, cat_set1 (f := oL) (x := marks (k + msum mL xs i) (nth xs i).length) (by rw [ptLL_len k (by omega)]; exact h) (by simp [oL, fr, marks_len]), ptLL_set k h]
theorem step_PP (k : Int) {xs : List Ints2} {i : Nat} (h : i < xs.length) (junk : List D) (c d : D) :
    ∃ A : List D, ((cat oP (ptPP k xs i) ++ junk).set (i * 2) c).set (i * 2 + 1) d = A ∧ A.length = xs.length * 2 + junk.length ∧ A[i * 2]? = some c ∧ A[i * 2 + 1]? = some d ∧
      (A.set (i * 2) (.fr 1 (nth xs i).1.length (cat cI (marks (k + msum mP xs i) (nth xs i).1.length)))).set (i * 2 + 1) (.fr 1 (nth xs i).2.length (cat cI (marks (k + msum mP xs i + (nth xs i).1.length) (nth xs i).2.length))) = cat oP (ptPP k xs (i + 1)) ++ junk := by
  have l1 : (cat oP (ptPP k xs i) ++ junk).length = xs.length * 2 + junk.length := by rw [List.length_append, cat_length, ptPP_len k (by omega)]
  refine ⟨_, rfl, by rw [List.length_set, List.length_set]; exact l1, ?_, by rw [List.getElem?_set_self (by rw [List.length_set]; omega)], ?_⟩
  · rw [List.getElem?_set_ne (by omega), List.getElem?_set_self (by omega)]
  · have e : (((cat oP (ptPP k xs i) ++ junk).set (i * 2) c).set (i * 2 + 1) d).set (i * 2) (.fr 1 (nth xs i).1.length (cat cI (marks (k + msum mP xs i) (nth xs i).1.length)))
        = ((cat oP (ptPP k xs i) ++ junk).set (i * 2) (.fr 1 (nth xs i).1.length (cat cI (marks (k + msum mP xs i) (nth xs i).1.length)))).set (i * 2 + 1) d := by
      rw [List.set_comm _ _ (by omega), List.set_set]
    rw [e, List.set_set, cat_set2 (f := oP) (d' := d) (x := (marks (k + msum mP xs i) (nth xs i).1.length, marks (k + msum mP xs i + (nth xs i).1.length) (nth xs i).2.length)) (by rw [ptPP_len k (by omega)]; exact h) (by simp [oP, fr, marks_len]), ptPP_set k h]
end Go.Proofs.Ytljncoikoffijaa.Vm

