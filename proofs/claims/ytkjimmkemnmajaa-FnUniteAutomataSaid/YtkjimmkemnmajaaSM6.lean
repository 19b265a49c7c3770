/-
  Unions accept what one of the two accepts: plain. No conditions.
-/
import Derived.Test.YtkjimmkemnmajaaSM4
import Derived.Test.YtkjimmkemnmajaaU3
namespace Go.Proofs.Ytkjimmkemnmajaa.Vm
open Go
set_option linter.unusedVariables false
set_option linter.unusedSimpArgs false
set_option maxRecDepth 200000

theorem Run.rng {n : Nat} {es : List Tr4} (hr : InRng n es) {w r : Nat → Int} (h : Run es w r) (t : Nat) : 0 ≤ r t ∧ r t < n := by
  obtain ⟨e, e1, e2, e3, e4⟩ := h t
  have := (hr.mem e1).1
  rwa [e2] at this
theorem sacc_uni {b b' : List Bool} {a a' : List Int} {c c' : List Tr4} (hr : InRng b.length c) (hr' : InRng b'.length c') (ha : ∀ s, s ∈ a → 0 ≤ s ∧ s < b.length) (ha' : ∀ s, s ∈ a' → 0 ≤ s ∧ s < b'.length) (w : Nat → Int) : SAcc (b ++ b') (uI a a' b.length) (uT c c' b.length) w ↔ SAcc b a c w ∨ SAcc b' a' c' w := by
  have hmI : ∀ x, x ∈ uI a a' b.length ↔ x ∈ a ∨ ∃ y, y ∈ a' ∧ y + (b.length : Int) = x := fun x => by simp [uI, uIk]
  have hmT : ∀ x, x ∈ uT c c' b.length ↔ x ∈ c ∨ ∃ y, y ∈ c' ∧ uE b.length y = x := fun x => by simp [uT, uTk]
  constructor
  · rintro ⟨r, r0, r1, r2⟩
    rw [hmI] at r0
    rcases r0 with q | ⟨q0, q1, q2⟩
    · left
      have inv : ∀ t, 0 ≤ r t ∧ r t < b.length := by
        intro t
        induction t with
        | zero => exact ha _ q
        | succ t ih =>
          obtain ⟨e, e1, e2, e3, e4⟩ := r1 t
          rw [hmT] at e1
          rcases e1 with e1 | ⟨d, d1, rfl⟩
          · have := (hr.mem e1).2; rwa [e3] at this
          · have := (hr'.mem d1).1; simp only [uE] at e2; omega
      refine ⟨r, q, fun t => ?_, r2.mono fun t ht => ?_⟩
      · obtain ⟨e, e1, e2, e3, e4⟩ := r1 t
        have h0 := e1
        rw [hmT] at h0
        rcases h0 with h0 | ⟨d, d1, rfl⟩
        · exact ⟨e, h0, e2, e3, e4⟩
        · have := (hr'.mem d1).1; have := inv t; simp only [uE] at e2; omega
      · have := inv t
        rwa [Xn (by omega)] at ht
    · right
      have hq := ha' _ q1
      have inv : ∀ t, (b.length : Int) ≤ r t := by
        intro t
        induction t with
        | zero => omega
        | succ t ih =>
          obtain ⟨e, e1, e2, e3, e4⟩ := r1 t
          rw [hmT] at e1
          rcases e1 with e1 | ⟨d, d1, rfl⟩
          · have := (hr.mem e1).1; omega
          · have := (hr'.mem d1).2; simp only [uE] at e3; omega
      refine ⟨fun t => r t - b.length, ?_, fun t => ?_, r2.mono fun t ht => ?_⟩
      · show r 0 - (b.length : Int) ∈ a'
        rw [show r 0 - (b.length : Int) = q0 by omega]; exact q1
      · obtain ⟨e, e1, e2, e3, e4⟩ := r1 t
        rw [hmT] at e1
        rcases e1 with e1 | ⟨d, d1, rfl⟩
        · have := (hr.mem e1).1; have := inv t; omega
        · simp only [uE] at e2 e3
          exact ⟨d, d1, (show d.1 = r t - (b.length : Int) by omega), (show d.2.2.2 = r (t + 1) - (b.length : Int) by omega), e4⟩
      · have := inv t
        rw [zaix (by omega)] at ht
        show nth b' (r t - (b.length : Int)).toNat = true
        rw [show (r t - (b.length : Int)).toNat = (r t).toNat - b.length by omega]; exact ht
  · rintro (⟨r, r0, r1, r2⟩ | ⟨r, r0, r1, r2⟩)
    · refine ⟨r, (hmI _).2 (.inl r0), fun t => ?_, r2.mono fun t ht => ?_⟩
      · obtain ⟨e, e1, e2⟩ := r1 t
        exact ⟨e, (hmT _).2 (.inl e1), e2⟩
      · have := Run.rng hr r1 t
        rw [Xn (by omega)]; exact ht
    · refine ⟨fun t => r t + b.length, (hmI _).2 (.inr ⟨r 0, r0, rfl⟩), fun t => ?_, r2.mono fun t ht => ?_⟩
      · obtain ⟨e, e1, e2, e3, e4⟩ := r1 t
        exact ⟨uE b.length e, (hmT _).2 (.inr ⟨e, e1, rfl⟩), (show e.1 + (b.length : Int) = r t + (b.length : Int) by omega), (show e.2.2.2 + (b.length : Int) = r (t + 1) + (b.length : Int) by omega), e4⟩
      · have := Run.rng hr' r1 t
        show nth (b ++ b') (r t + (b.length : Int)).toNat = true
        rw [zaix (by omega), show (r t + (b.length : Int)).toNat - b.length = (r t).toNat by omega]; exact ht
theorem UnOk.third {a : List Int} {b : List Bool} {c : List Tr4} {a' : List Int} {b' : List Bool} {c' : List Tr4} (h : UnOk a b c a' b' c') : AutOk (uI a a' b.length) (b ++ b').length (uT c c' b.length) := by
  have := h.2.2
  rwa [← List.length_append] at this
theorem acR_uni {a : List Int} {b : List Bool} {c : List Tr4} {a' : List Int} {b' : List Bool} {c' : List Tr4} (h : UnOk a b c a' b' c') (s l : List Int) : acR (uI a a' b.length) (b ++ b') (uT c c' b.length) s l = (acR a b c s l || acR a' b' c' s l) := by
  by_cases hL : LasOk s l
  · rw [acR_sem h.third hL, acR_sem h.1 hL, acR_sem h.2.1 hL, Bool.eq_iff_iff, B_iff, Bool.or_eq_true, B_iff, B_iff]
    exact sacc_uni h.1.rng h.2.1.rng (h.1.starts (Nat.le_refl _)).1 (h.2.1.starts (Nat.le_refl _)).1 _
  · rw [acR_las hL, acR_las hL, acR_las hL]; rfl
end Go.Proofs.Ytkjimmkemnmajaa.Vm

