/-
  Suffixes of runs: plain. No conditions.
-/
import Derived.Test.YtkjimmkemnmajaaSM1
import Derived.Test.YtkjimmkemnmajaaSM3
namespace Go.Proofs.Ytkjimmkemnmajaa.Vm
open Go
set_option linter.unusedVariables false
set_option linter.unusedSimpArgs false
set_option maxRecDepth 200000

theorem sacc_step {acc : List Bool} {ss : List Int} {es : List Tr4} {w : Nat → Int} : SAcc acc ss es w ↔ ∃ e, e ∈ es ∧ e.1 ∈ ss ∧ tk (w 0) e = true ∧ SAcc acc [e.2.2.2] es fun t => w (t + 1) := by
  constructor
  · rintro ⟨r, r0, r1, r2⟩
    obtain ⟨e, e1, e2, e3, e4⟩ := r1 0
    exact ⟨e, e1, by rw [e2]; exact r0, e4, fun t => r (t + 1), by rw [e3]; simp, fun t => r1 (t + 1), Oft.shift (p := fun t => nth acc (r t).toNat = true) r2⟩
  · rintro ⟨e, e1, e2, e3, r, r0, r1, r2⟩
    have r0' : r 0 = e.2.2.2 := by simpa using r0
    refine ⟨fun t => Nat.casesOn t e.1 r, e2, fun t => ?_, ?_⟩
    · cases t with
      | zero => exact ⟨e, e1, rfl, r0'.symm, e3⟩
      | succ t => exact r1 t
    · exact Oft.back (p := fun t => nth acc ((Nat.casesOn t e.1 r : Int)).toNat = true) r2

end Go.Proofs.Ytkjimmkemnmajaa.Vm

