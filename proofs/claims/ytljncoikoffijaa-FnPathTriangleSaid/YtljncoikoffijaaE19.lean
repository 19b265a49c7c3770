/-
  Draws: pairs of graphs. No conditions.
-/
import Derived.Test.YtljncoikoffijaaE18
namespace Go.Proofs.Ytljncoikoffijaa.Vm
open Go
set_option linter.unusedVariables false
set_option linter.unusedSimpArgs false
set_option maxRecDepth 200000

theorem SmallG.copy {x : List Ints2 × List (List Int)} (h : SmallG x) : CopyOk x.1 x.2 := ⟨by have := h.1; omega, by have := h.2.1; omega, fun s hs => by have := h.2.2.1 s hs; omega, fun l hl => by have := h.2.2.2 l hl; omega⟩
theorem Mut.copy {a : List Ints2} {bb : List (List Int)} {x : List Ints2 × List (List Int)} (h : Mut a bb x) (hs : SmallG (a, bb)) : CopyOk x.1 x.2 :=
  ⟨by have := h.2.1; have := hs.1; dsimp only at *; omega, by have := h.2.2.1; have := hs.2.1; dsimp only at *; omega,
   h.2.2.2.1 100000 (by omega) (SmallG.copy hs).2.2.1, h.2.2.2.2 99999 (by omega) fun l hl => by have := hs.2.2.2 l hl; omega⟩
noncomputable def Γe35 : FuncId → Con := Γe34
attribute [go_sem] Γe35
theorem Γe35_ok : ∀ g, ConOk Try.prog g (Γe35 g) := Γe34_ok
end Go.Proofs.Ytljncoikoffijaa.Vm

