/-
  Lassos behind the automata's functions; the small functions of Accepts. No conditions.
-/
import Derived.Test.YtoklpofekcclhaaN9
namespace Go.Proofs.Ytoklpofekcclhaa.Vm
open Go
set_option linter.unusedVariables false
set_option linter.unusedSimpArgs false
set_option maxRecDepth 200000

noncomputable def Γk1 : FuncId → Con := Γn13
attribute [go_sem] Γk1
theorem Γk1_ok : ∀ g, ConOk Try.prog g (Γk1 g) := Γn13_ok

noncomputable def Γk2 : FuncId → Con := Γk1
attribute [go_sem] Γk2
theorem Γk2_ok : ∀ g, ConOk Try.prog g (Γk2 g) := Γk1_ok

noncomputable def Γk3 : FuncId → Con := Γk2
attribute [go_sem] Γk3
theorem Γk3_ok : ∀ g, ConOk Try.prog g (Γk3 g) := Γk2_ok

/-- Letters all. -/
def LetOk (xs : List Int) : Prop := ∀ i, i < xs.length → 0 ≤ nth xs i ∧ nth xs i ≤ 7
/-- A valid lasso. -/
def LasOk (a b : List Int) : Prop := LetOk a ∧ LetOk b ∧ a.length ≤ 80 ∧ 1 ≤ b.length ∧ b.length ≤ 80
noncomputable def Γk4 : FuncId → Con := Γk3
attribute [go_sem] Γk4
theorem Γk4_ok : ∀ g, ConOk Try.prog g (Γk4 g) := Γk3_ok

/-- No letter. -/
def noLet (n : Int) : Bool := !(decide (0 ≤ n) && decide (n ≤ 7))
theorem find_let {xs : List Int} : (0 ≤ findI noLet xs) = ¬ LetOk xs := by
  rw [findI_ge, eq_iff_iff]
  constructor
  · rintro ⟨i, h, e⟩ k
    have := k i h
    simp [noLet] at e
    omega
  · intro h
    apply Classical.byContradiction; intro h2
    apply h; intro i hi
    apply Classical.byContradiction; intro h3
    exact h2 ⟨i, hi, by simp [noLet]; omega⟩
noncomputable def Γk5 : FuncId → Con := Γk4
attribute [go_sem] Γk5
theorem Γk5_ok : ∀ g, ConOk Try.prog g (Γk5 g) := Γk4_ok

noncomputable def Γk6 : FuncId → Con := Γk5
attribute [go_sem] Γk6
theorem Γk6_ok : ∀ g, ConOk Try.prog g (Γk6 g) := Γk5_ok

noncomputable def Γk7 : FuncId → Con := Γk6
attribute [go_sem] Γk7
theorem Γk7_ok : ∀ g, ConOk Try.prog g (Γk7 g) := Γk6_ok

noncomputable def Γk8 : FuncId → Con := Γk7
attribute [go_sem] Γk8
theorem Γk8_ok : ∀ g, ConOk Try.prog g (Γk8 g) := Γk7_ok

noncomputable def Γk9 : FuncId → Con := Γk8
attribute [go_sem] Γk9
theorem Γk9_ok : ∀ g, ConOk Try.prog g (Γk9 g) := Γk8_ok

noncomputable def Γk10 : FuncId → Con := Γk9
attribute [go_sem] Γk10
theorem Γk10_ok : ∀ g, ConOk Try.prog g (Γk10 g) := Γk9_ok
/-- Where a position behind the stem stands in the loop. -/
def turn (a b : List Int) (i : Int) : Nat := ((i - a.length).tmod b.length).toNat
theorem turn_lt {a b : List Int} {i : Int} (h : 0 < b.length) (hi : (a.length : Int) ≤ i) : (i - a.length).tmod b.length = turn a b i ∧ turn a b i < b.length := by
  have h1 : 0 ≤ (i - a.length).tmod b.length := Int.tmod_nonneg _ (by omega)
  have h2 : (i - a.length).tmod b.length < b.length := Int.tmod_lt_of_pos _ (by omega)
  unfold turn
  omega

noncomputable def Γk11 : FuncId → Con := Γk10
attribute [go_sem] Γk11
theorem Γk11_ok : ∀ g, ConOk Try.prog g (Γk11 g) := Γk10_ok

theorem turn_in {a b : List Int} {i : Int} (h1 : (a.length : Int) ≤ i) (h2 : i < (a.length : Int) + b.length) : (turn a b i : Int) = i - a.length := by
  unfold turn
  have h3 : (i - (a.length : Int)).tmod b.length = i - a.length := Int.tmod_eq_of_lt (by omega) (by omega)
  rw [h3]; omega
theorem turn_end (a b : List Int) : turn a b ((a.length : Int) + b.length) = 0 := by
  unfold turn
  rw [show (a.length : Int) + (b.length : Int) - (a.length : Int) = b.length by omega, Int.tmod_self]; rfl
theorem nth_appK {xs ys : List Int} {i : Nat} (h : xs.length ≤ i) : nth (xs ++ ys) i = nth ys (i - xs.length) := by
  simp only [nth, List.getD_eq_getElem?_getD]; rw [List.getElem?_append_right h]
noncomputable def Γk12 : FuncId → Con := Γk11
attribute [go_sem] Γk12
theorem Γk12_ok : ∀ g, ConOk Try.prog g (Γk12 g) := Γk11_ok
/-- The place behind. -/
def nxI (a b : List Int) (i : Nat) : Nat := if i + 1 = a.length + b.length then a.length else i + 1
theorem nxI_lt {a b : List Int} {i : Nat} (h : 0 < b.length) (hi : i < a.length + b.length) : nxI a b i < a.length + b.length := by
  unfold nxI; split <;> omega
noncomputable def Γk13 : FuncId → Con := Γk12
attribute [go_sem] Γk13
theorem Γk13_ok : ∀ g, ConOk Try.prog g (Γk13 g) := Γk12_ok
noncomputable def Γk14 : FuncId → Con := Γk13
attribute [go_sem] Γk14
theorem Γk14_ok : ∀ g, ConOk Try.prog g (Γk14 g) := Γk13_ok
noncomputable def Γk15 : FuncId → Con := Γk14
attribute [go_sem] Γk15
theorem Γk15_ok : ∀ g, ConOk Try.prog g (Γk15 g) := Γk14_ok
/-- An edge can be taken with a letter. -/
def tk (x : Int) (e : Tr4) : Bool := decide (bitsD .and .i64 x e.2.1 = e.2.2.1)
noncomputable def Γk16 : FuncId → Con := Γk15
attribute [go_sem] Γk16
theorem Γk16_ok : ∀ g, ConOk Try.prog g (Γk16 g) := Γk15_ok
noncomputable def Γk17 : FuncId → Con := Γk16
attribute [go_sem] Γk17
theorem Γk17_ok : ∀ g, ConOk Try.prog g (Γk17 g) := Γk16_ok
end Go.Proofs.Ytoklpofekcclhaa.Vm

