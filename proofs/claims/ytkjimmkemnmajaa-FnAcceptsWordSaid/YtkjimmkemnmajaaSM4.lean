/-
  Acceptance in plain words. No conditions.
-/
import Derived.Test.YtkjimmkemnmajaaSM2
import Derived.Test.YtkjimmkemnmajaaK4
namespace Go.Proofs.Ytkjimmkemnmajaa.Vm
open Go
set_option linter.unusedVariables false
set_option linter.unusedSimpArgs false
set_option maxRecDepth 200000

theorem acR_sem {a : List Int} {b : List Bool} {c : List Tr4} {s l : List Int} (hA : AutOk a b.length c) (hL : LasOk s l) : acR a b c s l = B (SAcc b a c (ltr s l)) := by
  rw [acR_yes ⟨hA, hL⟩, Bool.eq_iff_iff, B_iff, B_iff]
  exact acp_sem hA.rng hA.1 (by have := hL.2.2.2.1; omega) (hA.starts (Nat.le_refl _)).1
end Go.Proofs.Ytkjimmkemnmajaa.Vm

