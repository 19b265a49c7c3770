/-
  Lists of lists, and of pairs, marked: plain lemmas. No conditions.
-/
import Derived.Test.YtljncoikoffijaaG2
namespace Go.Proofs.Ytljncoikoffijaa.Vm
open Go
set_option linter.unusedVariables false
set_option linter.unusedSimpArgs false
set_option maxRecDepth 200000

/-- Lists, marked one behind the other. -/
def mkLL (k : Int) : List (List Int) → List (List Int)
  | [] => []
  | x :: xs => marks k x.length :: mkLL (k + x.length) xs
def mkPP (k : Int) : List Ints2 → List Ints2
  | [] => []
  | x :: xs => (marks k x.1.length, marks (k + x.1.length) x.2.length) :: mkPP (k + (x.1.length + x.2.length : Nat)) xs
@[go_sem] theorem mkLL_len : ∀ (k : Int) (xs : List (List Int)), (mkLL k xs).length = xs.length
  | _, [] => rfl
  | k, x :: xs => by simp [mkLL, mkLL_len _ xs]
@[go_sem] theorem mkPP_len : ∀ (k : Int) (xs : List Ints2), (mkPP k xs).length = xs.length
  | _, [] => rfl
  | k, x :: xs => by simp [mkPP, mkPP_len _ xs]
theorem nth_zero {α : Type} [Inhabited α] (x : α) (xs : List α) : nth (x :: xs) 0 = x := rfl
theorem nth_succ {α : Type} [Inhabited α] (x : α) (xs : List α) (i : Nat) : nth (x :: xs) (i + 1) = nth xs i := rfl
theorem msum_cons {α : Type} (m : α → Nat) (x : α) (xs : List α) (i : Nat) : msum m (x :: xs) (i + 1) = m x + msum m xs i := by simp [msum]
theorem nth_mkLL : ∀ {xs : List (List Int)} {k : Int} {i : Nat}, i < xs.length → nth (mkLL k xs) i = marks (k + msum mL xs i) (nth xs i).length
  | [], k, i, h => by simp at h
  | x :: xs, k, 0, h => by simp [mkLL, nth_zero, msum_zero]
  | x :: xs, k, i + 1, h => by
    rw [mkLL, nth_succ, nth_succ, msum_cons, nth_mkLL (by simpa using h)]
    congr 1
    simp only [mL]; omega
theorem nth_mkPP : ∀ {xs : List Ints2} {k : Int} {i : Nat}, i < xs.length → nth (mkPP k xs) i = (marks (k + msum mP xs i) (nth xs i).1.length, marks (k + msum mP xs i + (nth xs i).1.length) (nth xs i).2.length)
  | [], k, i, h => by simp at h
  | x :: xs, k, 0, h => by simp [mkPP, nth_zero, msum_zero]
  | x :: xs, k, i + 1, h => by
    rw [mkPP, nth_succ, nth_succ, msum_cons, nth_mkPP (by simpa using h)]
    have e : k + ((x.1.length + x.2.length : Nat) : Int) + msum mP xs i = k + ((mP x + msum mP xs i : Nat) : Int) := by simp only [mP]; omega
    rw [e]
theorem mkLL_idem : ∀ (k : Int) (xs : List (List Int)), mkLL k (mkLL k xs) = mkLL k xs
  | _, [] => rfl
  | k, x :: xs => by simp only [mkLL, marks_len]; rw [mkLL_idem _ xs]
theorem mkPP_idem : ∀ (k : Int) (xs : List Ints2), mkPP k (mkPP k xs) = mkPP k xs
  | _, [] => rfl
  | k, x :: xs => by simp only [mkPP, marks_len]; rw [mkPP_idem _ xs]
@[go_sem] theorem msum_mkLL : ∀ (k : Int) (xs : List (List Int)) (i : Nat), msum mL (mkLL k xs) i = msum mL xs i
  | _, [], i => rfl
  | k, x :: xs, 0 => rfl
  | k, x :: xs, i + 1 => by rw [mkLL, msum_cons, msum_cons, msum_mkLL _ xs i]; simp [mL, marks_len]
@[go_sem] theorem msum_mkPP : ∀ (k : Int) (xs : List Ints2) (i : Nat), msum mP (mkPP k xs) i = msum mP xs i
  | _, [], i => rfl
  | k, x :: xs, 0 => rfl
  | k, x :: xs, i + 1 => by rw [mkPP, msum_cons, msum_cons, msum_mkPP _ xs i]; simp [mP, marks_len]
/-- The first i of them marked. -/
def ptLL (k : Int) (xs : List (List Int)) (i : Nat) : List (List Int) := (mkLL k xs).take i ++ xs.drop i
def ptPP (k : Int) (xs : List Ints2) (i : Nat) : List Ints2 := (mkPP k xs).take i ++ xs.drop i
theorem ptLL_zero (k : Int) (xs : List (List Int)) : ptLL k xs 0 = xs := by simp [ptLL]
theorem ptPP_zero (k : Int) (xs : List Ints2) : ptPP k xs 0 = xs := by simp [ptPP]
theorem ptLL_all (k : Int) (xs : List (List Int)) : ptLL k xs xs.length = mkLL k xs := by simp [ptLL, List.take_of_length_le, mkLL_len]
theorem ptPP_all (k : Int) (xs : List Ints2) : ptPP k xs xs.length = mkPP k xs := by simp [ptPP, List.take_of_length_le, mkPP_len]
theorem ptLL_len (k : Int) {xs : List (List Int)} {i : Nat} (h : i ≤ xs.length) : (ptLL k xs i).length = xs.length := by simp [ptLL, mkLL_len]; omega
theorem ptPP_len (k : Int) {xs : List Ints2} {i : Nat} (h : i ≤ xs.length) : (ptPP k xs i).length = xs.length := by simp [ptPP, mkPP_len]; omega
theorem nth_app {α : Type} [Inhabited α] {l r : List α} {i : Nat} (h : i = l.length) : nth (l ++ r) i = nth r 0 := by subst h; simp only [nth, List.getD_eq_getElem?_getD]; rw [List.getElem?_append_right (Nat.le_refl _), Nat.sub_self]
theorem nth_ptLL (k : Int) {xs : List (List Int)} {i : Nat} (h : i < xs.length) : nth (ptLL k xs i) i = nth xs i := by
  rw [ptLL, nth_app (by simp [mkLL_len]; omega), nth_drop]; simp
theorem nth_ptPP (k : Int) {xs : List Ints2} {i : Nat} (h : i < xs.length) : nth (ptPP k xs i) i = nth xs i := by
  rw [ptPP, nth_app (by simp [mkPP_len]; omega), nth_drop]; simp
theorem set_mid {α : Type} {l r : List α} {x y : α} {i : Nat} (h : i = l.length) : (l ++ x :: r).set i y = l ++ y :: r := by subst h; simp
theorem ptLL_set (k : Int) {xs : List (List Int)} {i : Nat} (h : i < xs.length) : (ptLL k xs i).set i (marks (k + msum mL xs i) (nth xs i).length) = ptLL k xs (i + 1) := by
  have h2 : i < (mkLL k xs).length := by rw [mkLL_len]; exact h
  rw [ptLL, ptLL, List.drop_eq_getElem_cons h, set_mid (by simp [mkLL_len]; omega), List.take_succ_eq_append_getElem h2, ← nth_lt h2, nth_mkLL h]; simp
theorem ptPP_set (k : Int) {xs : List Ints2} {i : Nat} (h : i < xs.length) : (ptPP k xs i).set i (marks (k + msum mP xs i) (nth xs i).1.length, marks (k + msum mP xs i + (nth xs i).1.length) (nth xs i).2.length) = ptPP k xs (i + 1) := by
  have h2 : i < (mkPP k xs).length := by rw [mkPP_len]; exact h
  rw [ptPP, ptPP, List.drop_eq_getElem_cons h, set_mid (by simp [mkPP_len]; omega), List.take_succ_eq_append_getElem h2, ← nth_lt h2, nth_mkPP h]; simp
theorem len_two {α : Type} {l : List α} (h : l.length = 2) : ∃ a b, l = [a, b] := by
  match l, h with
  | [a, b], _ => exact ⟨a, b, rfl⟩
section
variable {α : Type} {f : α → List D}
theorem cat_set1 [Wide f 1] : ∀ {xs : List α} {i : Nat} {ys : List D} {x : α} {d : D}, i < xs.length → f x = [d] → (cat f xs ++ ys).set i d = cat f (xs.set i x) ++ ys
  | [], i, ys, x, d, h, hx => by simp at h
  | z :: xs, 0, ys, x, d, h, hx => by
    rw [cat_cons, List.set_cons_zero, cat_cons, hx]
    obtain ⟨e, he⟩ : ∃ e, f z = [e] := List.length_eq_one_iff.1 (by have := cat_length (f := f) [z]; rw [cat_one] at this; simpa using this)
    rw [he]; rfl
  | z :: xs, i + 1, ys, x, d, h, hx => by
    rw [cat_cons, List.set_cons_succ, cat_cons]
    obtain ⟨e, he⟩ : ∃ e, f z = [e] := List.length_eq_one_iff.1 (by have := cat_length (f := f) [z]; rw [cat_one] at this; simpa using this)
    rw [he, List.append_assoc, List.append_assoc]
    have := cat_set1 (xs := xs) (i := i) (ys := ys) (by simpa using h) hx
    simp [this]
theorem cat_set2 [Wide f 2] : ∀ {xs : List α} {i : Nat} {ys : List D} {x : α} {c d d' : D}, i < xs.length → f x = [c, d] → ((cat f xs ++ ys).set (i * 2) c).set (i * 2 + 1) d = cat f (xs.set i x) ++ ys
  | [], i, ys, x, c, d, d', h, hx => by simp at h
  | z :: xs, 0, ys, x, c, d, d', h, hx => by
    rw [cat_cons, List.set_cons_zero, cat_cons, hx]
    obtain ⟨e, e', he⟩ : ∃ e e', f z = [e, e'] := len_two (by have := cat_length (f := f) [z]; rw [cat_one] at this; simpa using this)
    rw [he]; rfl
  | z :: xs, i + 1, ys, x, c, d, d', h, hx => by
    rw [cat_cons, List.set_cons_succ, cat_cons]
    obtain ⟨e, e', he⟩ : ∃ e e', f z = [e, e'] := len_two (by have := cat_length (f := f) [z]; rw [cat_one] at this; simpa using this)
    rw [he, List.append_assoc, List.append_assoc]
    have := cat_set2 (xs := xs) (i := i) (ys := ys) (d' := d') (by simpa using h) hx
    have e : (i + 1) * 2 = i * 2 + 1 + 1 := by omega
    rw [e]
    simp [this]
end
end Go.Proofs.Ytljncoikoffijaa.Vm

