/-
  The product of an automaton and a lasso: plain. No conditions.
-/
import Derived.Test.YtoklpofekcclhaaK1
namespace Go.Proofs.Ytoklpofekcclhaa.Vm
open Go
set_option linter.unusedVariables false
set_option linter.unusedSimpArgs false
set_option maxRecDepth 200000

/-- One edge at one place. -/
def aStep (n : Nat) (x : Int) (P Q : Nat) (r : List (List Int)) (e : Tr4) : List (List Int) := if tk x e = true then addE r ((P : Int) + e.1) ((Q : Int) + e.2.2.2) else r
/-- The first k edges at one place. -/
def aIn (n : Nat) (es : List Tr4) (x : Int) (P Q : Nat) (r : List (List Int)) (k : Nat) : List (List Int) := (es.take k).foldl (aStep n x P Q) r
theorem aIn_zero (n : Nat) (es : List Tr4) (x : Int) (P Q : Nat) (r : List (List Int)) : aIn n es x P Q r 0 = r := by simp [aIn]
theorem aIn_succ {n : Nat} {es : List Tr4} {x : Int} {P Q : Nat} {r : List (List Int)} {k : Nat} (h : k < es.length) : aIn n es x P Q r (k + 1) = aStep n x P Q (aIn n es x P Q r k) (nth es k) := by
  unfold aIn; rw [List.take_succ_eq_append_getElem h, ← nth_lt h, List.foldl_append]; rfl
/-- The first i places. -/
def aRow (n : Nat) (es : List Tr4) (a b : List Int) : Nat → List (List Int)
  | 0 => List.replicate ((a.length + b.length) * n) []
  | i + 1 => aIn n es (nth (a ++ b) i) (i * n) (nxI a b i * n) (aRow n es a b i) es.length
/-- What stays true of the rows. -/
structure AR (N M : Nat) (r : List (List Int)) : Prop where
  len : r.length = N
  rng : ∀ i, i < N → ∀ y, y ∈ nth r i → 0 ≤ y ∧ y < N
  row : ∀ i, i < N → (nth r i).length ≤ M
theorem AR.start (N : Nat) : AR N 0 (List.replicate N []) := by
  have h : ∀ i, i < N → nth (List.replicate N ([] : List Int)) i = [] := fun i hi => by rw [nth_lt (by simpa using hi)]; simp
  exact ⟨by simp, fun i hi y hy => (by rw [h i hi] at hy; cases hy), fun i hi => (by rw [h i hi]; simp)⟩
theorem AR.step {N M n : Nat} {r : List (List Int)} (h : AR N M r) {x : Int} {P Q : Nat} {e : Tr4} (h1 : 0 ≤ e.1) (h2 : (P : Int) + e.1 < N) (h3 : 0 ≤ e.2.2.2) (h4 : (Q : Int) + e.2.2.2 < N) : AR N (M + 1) (aStep n x P Q r e) := by
  unfold aStep
  split
  · have hf : ((P : Int) + e.1).toNat < r.length := by rw [h.len]; omega
    refine ⟨by rw [addE_len, h.len], fun i hi y hy => ?_, fun i hi => ?_⟩
    · rw [mem_addE hf] at hy
      rcases hy with q | ⟨_, rfl⟩
      · exact h.rng i hi y q
      · omega
    · rw [nth_addE hf]
      have := h.row i hi
      split
      · simp; omega
      · omega
  · exact ⟨h.len, h.rng, fun i hi => by have := h.row i hi; omega⟩
theorem AR.aIn {N M n : Nat} {r : List (List Int)} (h : AR N M r) {es : List Tr4} (hr : InRng n es) {x : Int} {P Q : Nat} (hP : P + n ≤ N) (hQ : Q + n ≤ N) : ∀ k, k ≤ es.length → AR N (M + k) (aIn n es x P Q r k)
  | 0, _ => by rw [aIn_zero]; exact h
  | k + 1, hk => by
    rw [aIn_succ (by omega)]
    obtain ⟨⟨g1, g2⟩, g3, g4⟩ := hr k (by omega)
    exact (h.aIn hr hP hQ k (by omega)).step g1 (by omega) g3 (by omega)
theorem place_le {i m n : Nat} (h : i < m) : i * n + n ≤ m * n := by rw [← Nat.succ_mul]; exact Nat.mul_le_mul_right n h
theorem aRow_ok {n : Nat} {es : List Tr4} (hr : InRng n es) {a b : List Int} (hb : 0 < b.length) : ∀ i, i ≤ a.length + b.length → AR ((a.length + b.length) * n) (i * es.length) (aRow n es a b i)
  | 0, _ => by simp only [aRow, Nat.zero_mul]; exact AR.start _
  | i + 1, hi => by
    have ih := aRow_ok hr (a := a) (b := b) hb i (by omega)
    have := ih.aIn hr (x := nth (a ++ b) i) (place_le (n := n) (show i < a.length + b.length by omega)) (place_le (n := n) (nxI_lt (a := a) (b := b) hb (show i < a.length + b.length by omega))) es.length (Nat.le_refl _)
    rw [Nat.succ_mul]
    exact this
/-- The whole product. -/
def aAll (n : Nat) (es : List Tr4) (a b : List Int) : List (List Int) := aRow n es a b (a.length + b.length)
theorem aAll_ok {n : Nat} {es : List Tr4} (hr : InRng n es) {a b : List Int} (hL : LasOk a b) (hn : n ≤ 64) (he : es.length ≤ 2048) : NextOk (aAll n es a b) ∧ NextS (aAll n es a b) ∧ (aAll n es a b).length = (a.length + b.length) * n ∧ (a.length + b.length) * n ≤ 10240 := by
  obtain ⟨l1, l2, l3, l4, l5⟩ := hL
  have h := aRow_ok hr (a := a) (b := b) (by omega) (a.length + b.length) (Nat.le_refl _)
  have hm : (a.length + b.length) * n ≤ 160 * 64 := Nat.mul_le_mul (by omega) hn
  have hs : (a.length + b.length) * es.length ≤ 160 * 2048 := Nat.mul_le_mul (by omega) he
  refine ⟨fun j hj k hk => ?_, fun j hj => ?_, h.len, by omega⟩
  · unfold aAll at hj hk ⊢
    rw [h.len] at hj ⊢
    exact h.rng j hj _ (nth_mem hk)
  · unfold aAll at hj ⊢
    rw [h.len] at hj
    have := h.row j hj
    omega
/-- A word is accepted. -/
def Acp (n : Nat) (acc : List Bool) (ss : List Int) (nx : List (List Int)) : Prop := ∃ x : Nat, x < nx.length ∧ RchS nx ss (x : Int) ∧ Cyc nx (x : Int) ∧ nth acc (x % n) = true
theorem tmod_nat (k n : Nat) : ((k : Int)).tmod (n : Int) = ((k % n : Nat) : Int) := by
  rw [Int.tmod_eq_emod_of_nonneg (by omega)]; exact (Int.natCast_emod k n).symm
/-- A cell that is stored, in general. -/
theorem oN_addG {xs : List (List Int)} {f t : Int} (hf : f.toNat < xs.length) (junk : List D) : (cat oN xs ++ junk).set f.toNat (.fr 1 ((nth xs f.toNat).length + 1) (cat cI (nth xs f.toNat ++ [t]))) = cat oN (addE xs f t) ++ junk := by
  have := oN_set (xs := xs) (i := f.toNat) (junk := junk) (y := nth xs f.toNat ++ [t]) hf
  rw [addE, ← this, oNd_cons (by simp)]
  simp
end Go.Proofs.Ytoklpofekcclhaa.Vm

