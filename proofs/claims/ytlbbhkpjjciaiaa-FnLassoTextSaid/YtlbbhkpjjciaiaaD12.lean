/-
  Two lassos describe the same word exactly if sufficiently many letters agree. Plain lemmas; no conditions.
-/
import Derived.Test.YtlbbhkpjjciaiaaD11
namespace Go.Proofs.Ytlbbhkpjjciaiaa.Vm
open Go
set_option linter.unusedVariables false

theorem per_mul {w : Nat → Int} {s p : Nat} (h : ∀ i, s ≤ i → w (i + p) = w i) : ∀ (k i : Nat), s ≤ i → w (i + k * p) = w i
  | 0, i, hi => by simp
  | k + 1, i, hi => by
    have : i + (k + 1) * p = (i + k * p) + p := by rw [Nat.succ_mul]; omega
    rw [this, h _ (by omega), per_mul h k i hi]
/-- Two periods have a common measure that is one. -/
theorem per_gcd {w : Nat → Int} {s : Nat} : ∀ (n p q : Nat), p + q ≤ n → (∀ i, s ≤ i → w (i + p) = w i) → (∀ i, s ≤ i → w (i + q) = w i) → ∃ g, g ∣ p ∧ g ∣ q ∧ ∀ i, s ≤ i → w (i + g) = w i
  | 0, p, q, hn, hp, hq => ⟨0, by omega, by omega, fun i _ => rfl⟩
  | n + 1, p, q, hn, hp, hq => by
    by_cases h1 : p = 0
    · subst h1; exact ⟨q, Nat.dvd_zero _, Nat.dvd_refl _, hq⟩
    by_cases h2 : q = 0
    · subst h2; exact ⟨p, Nat.dvd_refl _, Nat.dvd_zero _, hp⟩
    by_cases h3 : p ≤ q
    · obtain ⟨g, g1, g2, g3⟩ := per_gcd n p (q - p) (by omega) hp (fun i hi => by
        rw [← hp (i + (q - p)) (by omega), show i + (q - p) + p = i + q by omega, hq i hi])
      exact ⟨g, g1, by have := Nat.dvd_add g1 g2; rwa [show p + (q - p) = q by omega] at this, g3⟩
    · obtain ⟨g, g1, g2, g3⟩ := per_gcd n (p - q) q (by omega) (fun i hi => by
        rw [← hq (i + (p - q)) (by omega), show i + (p - q) + q = i + p by omega, hp i hi]) hq
      exact ⟨g, by have := Nat.dvd_add g2 g1; rwa [show q + (p - q) = p by omega] at this, g2, g3⟩
theorem agree_all {w v : Nat → Int} {s p q N : Nat} (hp : ∀ i, s ≤ i → w (i + p) = w i) (hq : ∀ i, s ≤ i → v (i + q) = v i) (h0 : 0 < p * q) (hN : s + p * q ≤ N) (h : ∀ i, i < N → w i = v i) : ∀ i, w i = v i := by
  intro i
  induction i using Nat.strongRecOn with
  | _ i ih =>
    rcases Nat.lt_or_ge i N with hi | hi
    · exact h i hi
    · have e1 := per_mul hp q (i - p * q) (by omega)
      have e2 := per_mul hq p (i - p * q) (by omega)
      rw [Nat.mul_comm q p, Nat.sub_add_cancel (by omega)] at e1
      rw [Nat.sub_add_cancel (by omega)] at e2
      rw [e1, e2, ih _ (by omega)]
theorem let_lo {A B : List Int} {i : Nat} (h : i < A.length) : letter A B (i : Int) = nth A i := by rw [letter_nat, if_pos h]
theorem let_hi {A B : List Int} {i : Nat} (h : A.length ≤ i) : letter A B (i : Int) = nth B ((i - A.length) % B.length) := by rw [letter_nat, if_neg (by omega)]
theorem let_per {A B : List Int} {i : Nat} (h : A.length ≤ i) : letter A B ((i + B.length : Nat) : Int) = letter A B (i : Int) := by
  rw [let_hi (by omega), let_hi h]
  congr 1
  rw [show i + B.length - A.length = (i - A.length) + B.length by omega, Nat.add_mod_right]
/-- What is reduced: the loop has no shorter period, and the stem does not end as the loop does. -/
structure Red (A B : List Int) : Prop where
  pos : 1 ≤ B.length
  per : ∀ m, 1 ≤ m → m < B.length → ¬ Per B m
  last : ¬ (0 < A.length ∧ nth A (A.length - 1) = nth B (B.length - 1))
theorem red_Red {a b : List Int} (h4 : 1 ≤ b.length) : Red (redS a b) (redL a b) := by
  have hp := red_period (a := a) h4
  obtain ⟨p1, p2, _⟩ := period_le h4
  have hc : (b.take (period b)).length = period b := by simp; omega
  have hl : (redL a b).length = period b := by unfold redL; rw [lp_len (by omega), hc]
  obtain ⟨e1, e2⟩ := red_red (a := a) h4
  have ht : (redL a b).take (period (redL a b)) = redL a b := by rw [hp]; exact List.take_length
  refine ⟨by omega, fun m m1 m2 => ?_, fun ⟨q1, q2⟩ => ?_⟩
  · exact (period_le (xs := redL a b) (by omega)).2.2.2 m m1 (by rw [hp]; exact m2)
  · obtain ⟨k1, k2, k3⟩ := back_le (redS a b) (redL a b)
    rw [redS, ht] at e1
    have := congrArg List.length e1
    simp only [List.length_take] at this
    have hb : back (redS a b) (redL a b) = 0 := by omega
    rw [hb] at k3
    exact k3 ⟨q1, q2⟩
theorem red_g {A B : List Int} {s g : Nat} (hr : Red A B) (hs : A.length ≤ s) (hg : g ∣ B.length) (h : ∀ i : Nat, s ≤ i → letter A B ((i + g : Nat) : Int) = letter A B (i : Int)) : g = B.length := by
  have hp := hr.pos
  have hg0 : 0 < g := Nat.pos_of_dvd_of_pos hg hp
  have hle := Nat.le_of_dvd hp hg
  rcases Nat.lt_or_ge g B.length with hlt | hge
  · exfalso
    refine hr.per g hg0 hlt ⟨Nat.mod_eq_zero_of_dvd hg, fun i h1 h2 => ?_⟩
    -- a place far out where the loop stands at i - g
    have hM : s ≤ A.length + s * B.length + (i - g) := by
      have : s ≤ s * B.length := Nat.le_mul_of_pos_right _ hp
      omega
    have q := h _ hM
    have e0 : s * B.length + (i - g) + g = s * B.length + i := by omega
    rw [let_hi (by omega), let_hi (by omega), show A.length + s * B.length + (i - g) + g - A.length = s * B.length + i by omega, show A.length + s * B.length + (i - g) - A.length = s * B.length + (i - g) by omega,
      Nat.mul_add_mod_self_right, Nat.mul_add_mod_self_right, Nat.mod_eq_of_lt h2, Nat.mod_eq_of_lt (by omega)] at q
    exact q
  · omega
theorem red_unique {A B C D : List Int} (h1 : Red A B) (h2 : Red C D) (h : ∀ i : Nat, letter A B (i : Int) = letter C D (i : Int)) : A = C ∧ B = D := by
  have hpq : B.length = D.length := by
    obtain ⟨g, g1, g2, g3⟩ := per_gcd (w := fun i => letter A B (i : Int)) (s := A.length + C.length) (B.length + D.length) B.length D.length (Nat.le_refl _) (fun i hi => let_per (by omega)) (fun i hi => by
      show letter A B ((i + D.length : Nat) : Int) = letter A B (i : Int)
      rw [h, h]; exact let_per (by omega))
    have e1 := red_g h1 (by omega) g1 g3
    have e2 := red_g h2 (s := A.length + C.length) (by omega) g2 (fun i hi => by rw [← h, ← h]; exact g3 i hi)
    omega
  have key : ∀ {A B C D : List Int}, Red C D → B.length = D.length → (∀ i : Nat, letter A B (i : Int) = letter C D (i : Int)) → ¬ A.length < C.length := by
    intro A B C D h2 hpq h hlt
    have hp := h2.pos
    refine h2.last ⟨by omega, ?_⟩
    have e1 := h (C.length - 1)
    have e2 := h (C.length - 1 + B.length)
    rw [let_per (by omega), e1, let_lo (by omega), let_hi (by omega)] at e2
    rw [e2]
    congr 1
    rw [show C.length - 1 + B.length - C.length = D.length - 1 by omega, Nat.mod_eq_of_lt (by omega)]
  have hl : A.length = C.length := by
    have k1 := key h2 hpq h
    have k2 := key h1 hpq.symm (fun i => (h i).symm)
    omega
  constructor
  · apply List.ext_getElem hl
    intro i i1 i2
    have := h i
    rw [let_lo i1, let_lo i2, nth_lt i1, nth_lt i2] at this
    exact this
  · apply List.ext_getElem hpq
    intro i i1 i2
    have := h (A.length + i)
    rw [let_hi (by omega), let_hi (by omega), hl, Nat.add_sub_cancel_left, Nat.mod_eq_of_lt i1, Nat.mod_eq_of_lt i2, nth_lt i1, nth_lt i2] at this
    exact this
/-- Sufficiently many letters. -/
theorem same_iff {a b c d : List Int} (h1 : LasOk a b) (h2 : LasOk c d) : (∀ i : Nat, i < a.length + c.length + 2 * b.length * d.length → letter a b (i : Int) = letter c d (i : Int)) ↔ Same a b c d := by
  constructor
  · intro h
    have r1 := red_Red (a := a) (b := b) h1.2.2.2.1
    have r2 := red_Red (a := c) (b := d) h2.2.2.2.1
    have l1 := redS_le2 a b
    have l2 := redS_le2 c d
    have l3 := redL_le2 (a := a) (b := b) h1.2.2.2.1
    have l4 := redL_le2 (a := c) (b := d) h2.2.2.2.1
    have hm : (redL a b).length * (redL c d).length ≤ b.length * d.length := Nat.mul_le_mul l3 l4
    have h3 : 2 * b.length * d.length = 2 * (b.length * d.length) := Nat.mul_assoc _ _ _
    obtain ⟨e1, e2⟩ := red_unique r1 r2 (agree_all (w := fun i => letter (redS a b) (redL a b) (i : Int)) (v := fun i => letter (redS c d) (redL c d) (i : Int)) (s := a.length + c.length) (p := (redL a b).length) (q := (redL c d).length) (N := a.length + c.length + 2 * b.length * d.length)
      (fun i hi => let_per (by omega)) (fun i hi => let_per (by omega)) (Nat.mul_pos r1.pos r2.pos) (by omega) (fun i hi => by
        show letter (redS a b) (redL a b) (i : Int) = letter (redS c d) (redL c d) (i : Int)
        rw [red_letter h1 (by omega), red_letter h2 (by omega)]; exact h i hi))
    exact ⟨h1, h2, e1, e2⟩
  · rintro ⟨_, _, e1, e2⟩ i hi
    rw [← red_letter h1 (by omega), ← red_letter h2 (by omega), e1, e2]
theorem same_symm (a b c d : List Int) : Same a b c d ↔ Same c d a b := ⟨fun ⟨h1, h2, h3, h4⟩ => ⟨h2, h1, h3.symm, h4.symm⟩, fun ⟨h1, h2, h3, h4⟩ => ⟨h2, h1, h3.symm, h4.symm⟩⟩
end Go.Proofs.Ytlbbhkpjjciaiaa.Vm

