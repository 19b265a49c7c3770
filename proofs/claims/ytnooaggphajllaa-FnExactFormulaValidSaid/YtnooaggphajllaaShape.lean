/-
  Well-made trees: plain lemmas; and worlds in which one block alone has turned. Nothing of the program is named here.
-/
import Derived.Test.YtnooaggphajllaaTree
namespace Go.Proofs.Ytnooaggphajllaa
open Go.RowKit Go.Deep
set_option linter.unusedVariables false

/-- All blocks that were there are as they were, but for block g. -/
structure GrB (g : Nat) (w w' : World) : Prop where
  os : w'.os = w.os
  tape : w'.tape = w.tape
  output : w'.output = w.output
  size : w.heap.size ≤ w'.heap.size
  block : ∀ k, k < w.heap.size → k ≠ g → w'.heap[k]? = w.heap[k]?
theorem GrB.refl (g : Nat) (w : World) : GrB g w w := ⟨rfl, rfl, rfl, Nat.le_refl _, fun _ _ _ => rfl⟩
theorem GrB.trans {g : Nat} {a b c : World} (h : GrB g a b) (k : GrB g b c) : GrB g a c :=
  ⟨k.os.trans h.os, k.tape.trans h.tape, k.output.trans h.output, Nat.le_trans h.size k.size, fun i hi hg => (k.block i (by have := h.size; omega) hg).trans (h.block i hi hg)⟩
theorem Gr.b {g : Nat} {a b : World} (h : Gr a b) : GrB g a b := ⟨h.os, h.tape, h.output, h.size, fun i hi _ => h.block i hi⟩
theorem GrB.gr {g : Nat} {w0 w w' : World} (h : Gr w0 w) (k : GrB g w w') (hg : w0.heap.size ≤ g) : Gr w0 w' :=
  ⟨k.os.trans h.os, k.tape.trans h.tape, k.output.trans h.output, Nat.le_trans h.size k.size, fun i hi => (k.block i (by have := h.size; omega) (by omega)).trans (h.block i hi)⟩
theorem GrB.set {g : Nat} {w W : World} (h : GrB g w W) {i : Nat} {u : Value} : GrB g w (W.setCell ⟨g, i, none⟩ u) :=
  ⟨h.os, h.tape, h.output, by rw [sz_set]; exact h.size, fun k hk hg => (Below.heap_setCell W ⟨g, i, none⟩ u k hg).trans (h.block k hk hg)⟩
theorem GrB.alloc {g : Nat} {w W : World} (h : GrB g w W) (o : Obj) : GrB g w (W.alloc o) := h.trans ((Gr.refl W).alloc o).b
theorem GrB.drewN {g : Nat} {w W : World} (h : GrB g w W) (n : Nat) : GrB g w (W.drewN n) := ⟨h.os, h.tape, h.output, h.size, h.block⟩
theorem Box.grB {g g' : Nat} {w w' : World} {t : TypeId} {cs : Array Value} (h : Box w g' t cs) (k : GrB g w w') (hg : g' ≠ g) : Box w' g' t cs := (k.block g' h.lt hg).trans h

/-- A node is well made: its operands are as many as its kind wants; its atom is one, and 0 where the kind has none. -/
def nodeB (ar : Int → Int) (k a : Int) (n : Nat) : Bool := decide ((n : Int) = ar k ∧ 0 ≤ a ∧ a < 3 ∧ (k = 2 ∨ a = 0))
/-- A tree is well made and at most d deep. -/
def shape (ar : Int → Int) : Nat → Tr → Bool
  | 0, _ => false
  | d + 1, .node k a ts => nodeB ar k a ts.length && ts.all (shape ar d)
theorem nodeB_iff {ar : Int → Int} {k a : Int} {n : Nat} : nodeB ar k a n = true ↔ ((n : Int) = ar k ∧ 0 ≤ a ∧ a < 3 ∧ (k = 2 ∨ a = 0)) := by simp [nodeB]
theorem nodeB_no {ar : Int → Int} {k a : Int} {n : Nat} (h : ¬ ((n : Int) = ar k ∧ 0 ≤ a ∧ a < 3 ∧ (k = 2 ∨ a = 0))) : nodeB ar k a n = false := by
  cases h' : nodeB ar k a n
  · rfl
  · exact absurd (nodeB_iff.1 h') h
theorem shape_node {ar : Int → Int} {d : Nat} {k a : Int} {ts : List Tr} (h : nodeB ar k a ts.length = true) : shape ar (d + 1) (.node k a ts) = ts.all (shape ar d) := by simp [shape, h]
theorem shape_bad {ar : Int → Int} {d : Nat} {k a : Int} {ts : List Tr} (h : nodeB ar k a ts.length = false) : shape ar d (.node k a ts) = false := by cases d <;> simp [shape, h]

/-- The first k trees meet the test. -/
def AllT (p : Tr → Bool) (ts : List Tr) (k : Nat) : Prop := ∀ i (hi : i < ts.length), i < k → p ts[i] = true
theorem AllT.zero (p : Tr → Bool) (ts : List Tr) : AllT p ts 0 := fun _ _ h => absurd h (by omega)
theorem AllT.succ {p : Tr → Bool} {ts : List Tr} {k : Nat} (h : AllT p ts k) (hk : k < ts.length) (e : p ts[k] = true) : AllT p ts (k + 1) := fun i hi hik => by
  by_cases h1 : i = k
  · subst h1; exact e
  · exact h i hi (by omega)
theorem AllT.all {p : Tr → Bool} {ts : List Tr} {k : Nat} (h : AllT p ts k) (hk : ts.length ≤ k) : ts.all p = true := by
  rw [List.all_eq_true]
  intro x hx
  obtain ⟨i, hi, rfl⟩ := List.getElem_of_mem hx
  exact h i hi (by omega)
theorem all_no {p : Tr → Bool} {ts : List Tr} {k : Nat} (hk : k < ts.length) (e : p ts[k] = false) : ts.all p = false := by
  rw [List.all_eq_false]
  exact ⟨ts[k], List.getElem_mem hk, by simp [e]⟩
theorem all_at {p : Tr → Bool} {ts : List Tr} (h : ts.all p = true) {k : Nat} (hk : k < ts.length) : p ts[k] = true := List.all_eq_true.1 h _ (List.getElem_mem hk)

/-- A well-made tree of depth d has fewer than 2^d nodes. -/
theorem shape_small {ar : Int → Int} (har : ∀ k, ar k ≤ 2) : ∀ (d : Nat) (t : Tr), shape ar d t = true → trN t + 1 ≤ 2 ^ d
  | 0, _, h => by simp [shape] at h
  | d + 1, .node k a ts, h => by
    simp only [shape, Bool.and_eq_true] at h
    obtain ⟨h1, h2⟩ := h
    have hn := (nodeB_iff.1 h1).1
    have hk := har k
    have hl : ts.length ≤ 2 := by omega
    have e : trNL ts + ts.length ≤ ts.length * 2 ^ d := by
      clear h1 hn hl
      induction ts with
      | nil => simp [trNL]
      | cons t ts ih =>
        simp only [List.all_cons, Bool.and_eq_true] at h2
        have i1 := shape_small har d t h2.1
        have i2 := ih h2.2
        simp only [trNL, List.length_cons, Nat.succ_mul]
        omega
    have hp : ts.length * 2 ^ d ≤ 2 * 2 ^ d := Nat.mul_le_mul_right _ hl
    have h1p : 1 ≤ 2 ^ d := Nat.one_le_two_pow
    simp only [trN, Nat.pow_succ]
    match ts, hl with
    | [], _ => simp [trNL]; omega
    | [_], _ => simp only [List.length_cons, List.length_nil] at e hp; omega
    | [_, _], _ => simp only [List.length_cons, List.length_nil] at e hp; omega
/-- Well made, and not too many nodes. -/
def validTr (ar : Int → Int) (t : Tr) : Bool := shape ar 6 t && decide (trN t ≤ 12)
/-- What a walk at count c, d levels being left, answers. -/
def walkOk (ar : Int → Int) (d c : Nat) (t : Tr) : Bool := shape ar d t && decide (c + trN t ≤ 12)
def walkOkL (ar : Int → Int) (d c : Nat) (ts : List Tr) : Bool := ts.all (shape ar d) && decide (c + trNL ts ≤ 12)
theorem walkOk_top (ar : Int → Int) (t : Tr) : walkOk ar 6 0 t = validTr ar t := by simp [walkOk, validTr]
theorem walkOk_node {ar : Int → Int} {d c : Nat} {k a : Int} {ts : List Tr} (h : nodeB ar k a ts.length = true) : walkOk ar (d + 1) c (.node k a ts) = walkOkL ar d (c + 1) ts := by
  simp only [walkOk, walkOkL, shape_node h, trN]
  congr 2
  simp; omega
theorem walkOk_bad {ar : Int → Int} {d c : Nat} {k a : Int} {ts : List Tr} (h : nodeB ar k a ts.length = false) : walkOk ar d c (.node k a ts) = false := by simp [walkOk, shape_bad h]
theorem walkOk_deep (ar : Int → Int) (c : Nat) (t : Tr) : walkOk ar 0 c t = false := by simp [walkOk, shape]
theorem walkOk_many (ar : Int → Int) (d : Nat) {c : Nat} (t : Tr) (h : 12 ≤ c) : walkOk ar d c t = false := by have := trN_pos t; simp [walkOk]; omega
theorem walkOkL_no {ar : Int → Int} {d c k : Nat} {ts : List Tr} (hk : k < ts.length) (h : walkOk ar d (c + preN ts k) ts[k] = false) : walkOkL ar d c ts = false := by
  have h1 := preN_le (ts := ts) (k := k + 1) hk
  rw [preN_succ hk] at h1
  simp only [walkOk, Bool.and_eq_false_iff, decide_eq_false_iff_not] at h
  simp only [walkOkL, Bool.and_eq_false_iff, decide_eq_false_iff_not]
  rcases h with h | h
  · exact .inl (all_no hk h)
  · exact .inr (by omega)
theorem walkOk_parts {ar : Int → Int} {d c : Nat} {t : Tr} (h : walkOk ar d c t = true) : shape ar d t = true ∧ c + trN t ≤ 12 := by simpa [walkOk] using h
theorem walkOkL_yes {ar : Int → Int} {d c k : Nat} {ts : List Tr} (hk : ts.length ≤ k) (h : AllT (shape ar d) ts k) (h2 : c + preN ts k ≤ 12) : walkOkL ar d c ts = true := by
  rw [preN_all hk] at h2
  simp [walkOkL, h2]
  simpa using h.all hk

/-- How many operands: kinds of branching-time formulas; kinds of formulas. -/
def arB (k : Int) : Int := if k = 1 ∨ k = 2 then 0 else if k = 3 ∨ k = 6 ∨ k = 8 ∨ k = 9 ∨ k = 11 then 1 else if k = 4 ∨ k = 5 ∨ k = 7 ∨ k = 10 then 2 else -1
def arF (k : Int) : Int := if k = 1 ∨ k = 2 then 0 else if k = 3 ∨ k = 6 ∨ k = 9 ∨ k = 10 then 1 else if k = 4 ∨ k = 5 ∨ k = 7 ∨ k = 8 then 2 else -1
theorem arB_le (k : Int) : arB k ≤ 2 := by unfold arB; repeat' split <;> omega
theorem arF_le (k : Int) : arF k ≤ 2 := by unfold arF; repeat' split <;> omega
end Go.Proofs.Ytnooaggphajllaa
