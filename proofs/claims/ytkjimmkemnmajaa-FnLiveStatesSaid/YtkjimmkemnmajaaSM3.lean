/-
  Liveness is closed under edges: plain. No conditions.
-/
import Derived.Test.YtkjimmkemnmajaaN8
namespace Go.Proofs.Ytkjimmkemnmajaa.Vm
open Go
set_option linter.unusedVariables false
set_option linter.unusedSimpArgs false
set_option maxRecDepth 200000

theorem nth_repN {α : Type} [Inhabited α] {n i : Nat} {x : α} (h : x = default) : nth (List.replicate n x) i = x := by
  simp only [nth, List.getD_eq_getElem?_getD]
  rcases Nat.lt_or_ge i n with q | q
  · simp [q]
  · rw [List.getElem?_eq_none (by simpa using q), h]; rfl
theorem nxE_memK {n : Nat} {es : List Tr4} (hr : InRng n es) (i : Nat) (y : Int) : ∀ k, k ≤ es.length → (y ∈ nth (nxE n es k) i ↔ ∃ j, j < k ∧ (nth es j).1 = (i : Int) ∧ (nth es j).2.2.2 = y)
  | 0, _ => by
    rw [nxE_zero, nth_repN (x := ([] : List Int)) rfl]
    constructor
    · intro h; cases h
    · rintro ⟨j, hj, _⟩; omega
  | k + 1, h => by
    have ih := nxE_memK hr i y k (by omega)
    obtain ⟨⟨g1, g2⟩, g3⟩ := hr k (by omega)
    rw [nxE_succ (by omega), mem_addE (by rw [nxE_len n es k (by omega)]; omega), ih]
    constructor
    · rintro (⟨j, j1, j2, j3⟩ | ⟨h1, h2⟩)
      · exact ⟨j, by omega, j2, j3⟩
      · exact ⟨k, by omega, by omega, h2.symm⟩
    · rintro ⟨j, j1, j2, j3⟩
      by_cases e : j = k
      · subst e; exact .inr ⟨by omega, j3.symm⟩
      · exact .inl ⟨j, by omega, j2, j3⟩
theorem liv_next {nx : List (List Int)} {acc : List Bool} {s : Int} : Liv nx acc [s] ↔ ∃ y, y ∈ nth nx s.toNat ∧ Liv nx acc [y] := by
  constructor
  · rintro ⟨x, x1, ⟨s', hs, r⟩, c, a⟩
    have e : s' = s := by simpa using hs
    subst e
    rcases r.cases' with q | ⟨z, z1, z2⟩
    · subst q
      obtain ⟨y, y1, y2⟩ := c
      exact ⟨y, y1, s', x1, ⟨y, by simp, y2⟩, ⟨y, y1, y2⟩, a⟩
    · exact ⟨z, z1, x, x1, ⟨z, by simp, z2⟩, c, a⟩
  · rintro ⟨y, y1, x, x1, ⟨s', hs, r⟩, c, a⟩
    have e : s' = y := by simpa using hs
    subst e
    exact ⟨x, x1, ⟨s, by simp, .step y1 r⟩, c, a⟩
def orE (L : List Bool) (r : List Bool) (e : Tr4) : List Bool := r.set e.1.toNat (nth r e.1.toNat || nth L e.2.2.2.toNat)
def orsE (L : List Bool) (n : Nat) (es : List Tr4) (k : Nat) : List Bool := (es.take k).foldl (orE L) (List.replicate n false)
theorem orsE_zero (L : List Bool) (n : Nat) (es : List Tr4) : orsE L n es 0 = List.replicate n false := by simp [orsE]
theorem orsE_succ {L : List Bool} {n : Nat} {es : List Tr4} {k : Nat} (h : k < es.length) : orsE L n es (k + 1) = (orsE L n es k).set (nth es k).1.toNat (nth (orsE L n es k) (nth es k).1.toNat || nth L (nth es k).2.2.2.toNat) := by
  unfold orsE; rw [List.take_succ_eq_append_getElem h, ← nth_lt h, List.foldl_append]; rfl
theorem orsE_len (L : List Bool) (n : Nat) (es : List Tr4) : ∀ k, k ≤ es.length → (orsE L n es k).length = n
  | 0, _ => by simp [orsE]
  | k + 1, h => by rw [orsE_succ (by omega), List.length_set, orsE_len L n es k (by omega)]
theorem nth_orsE {L : List Bool} {n : Nat} {es : List Tr4} (hr : InRng n es) {i : Nat} (hi : i < n) : ∀ k, k ≤ es.length → (nth (orsE L n es k) i = true ↔ ∃ j, j < k ∧ (nth es j).1 = (i : Int) ∧ nth L (nth es j).2.2.2.toNat = true)
  | 0, _ => by
    rw [orsE_zero, nth_repN (x := false) rfl]
    constructor
    · intro h; cases h
    · rintro ⟨j, hj, _⟩; omega
  | k + 1, h => by
    have ih := nth_orsE (L := L) hr hi k (by omega)
    obtain ⟨⟨g1, g2⟩, g3⟩ := hr k (by omega)
    rw [orsE_succ (by omega)]
    by_cases e : (nth es k).1.toNat = i
    · rw [e, nth_set_self (by rw [orsE_len L n es k (by omega)]; exact hi), Bool.or_eq_true, ih]
      constructor
      · rintro (⟨j, j1, j2, j3⟩ | h1)
        · exact ⟨j, by omega, j2, j3⟩
        · exact ⟨k, by omega, by omega, h1⟩
      · rintro ⟨j, j1, j2, j3⟩
        by_cases e2 : j = k
        · subst e2; exact .inr j3
        · exact .inl ⟨j, by omega, j2, j3⟩
    · rw [nth_set_ne e, ih]
      constructor
      · rintro ⟨j, j1, j2, j3⟩
        exact ⟨j, by omega, j2, j3⟩
      · rintro ⟨j, j1, j2, j3⟩
        by_cases e2 : j = k
        · subst e2; exact absurd (by omega) e
        · exact ⟨j, by omega, j2, j3⟩
theorem ors_live {n : Nat} {es : List Tr4} (hr : InRng n es) (acc : List Bool) : orsE (livL (nxE n es es.length) acc) n es es.length = livL (nxE n es es.length) acc := by
  have hl := nxE_len n es es.length (Nat.le_refl _)
  have hll : (livL (nxE n es es.length) acc).length = n := by rw [livL_len, hl]
  have hol := orsE_len (livL (nxE n es es.length) acc) n es es.length (Nat.le_refl _)
  apply List.ext_getElem (by rw [hol, hll])
  intro i h1 h2
  rw [← nth_lt h1, ← nth_lt h2]
  rw [hol] at h1
  rw [Bool.eq_iff_iff, nth_orsE hr h1 _ (Nat.le_refl _), nth_livL (by rw [hl]; exact h1), B_iff, liv_next]
  constructor
  · rintro ⟨j, j1, j2, j3⟩
    obtain ⟨⟨g1, g2⟩, g3, g4⟩ := hr j j1
    rw [nth_livL (by rw [hl]; omega), B_iff] at j3
    refine ⟨(nth es j).2.2.2, ?_, ?_⟩
    · rw [Int.toNat_natCast, nxE_memK hr _ _ _ (Nat.le_refl _)]
      exact ⟨j, j1, j2, rfl⟩
    · rwa [Int.toNat_of_nonneg g3] at j3
  · rintro ⟨y, y1, y2⟩
    rw [Int.toNat_natCast, nxE_memK hr _ _ _ (Nat.le_refl _)] at y1
    obtain ⟨j, j1, j2, j3⟩ := y1
    obtain ⟨⟨g1, g2⟩, g3, g4⟩ := hr j j1
    refine ⟨j, j1, j2, ?_⟩
    rw [nth_livL (by rw [hl]; omega), B_iff, Int.toNat_of_nonneg g3, j3]
    exact y2

end Go.Proofs.Ytkjimmkemnmajaa.Vm

