/-
  Lists joined; traces. No conditions.
-/
import Derived.Test.YtkjimmkemnmajaaF5
namespace Go.Proofs.Ytkjimmkemnmajaa.Vm
open Go
set_option linter.unusedVariables false
set_option linter.unusedSimpArgs false
set_option maxRecDepth 200000

theorem grow_spec (n : Int) (H : Hp) (h0 : 0 ≤ n) (h1 : n ≤ 1048576) : Spec Try.prog 194 [.nil, .int .i64 n] H (.fr 1 0 []) H := by
  refine Spec.of_walk Try.func194 rfl (by simp [Try.f194]) fun B => ?_
  (repeat' (first
    | refine AW_seq ?_
    | refine zaac (id := 0) Γ45_ok [] (by kernel_rfl) ?_; simp  [-List.getD_eq_getElem?_getD, -List.drop_one, ↓zaab, ↓zaaa, go_sem]
    | refine zaac (id := 1) Γ45_ok [] (by kernel_rfl) ?_; simp  [-List.getD_eq_getElem?_getD, -List.drop_one, ↓zaab, ↓zaaa, go_sem]
    | refine zaac (id := 2) Γ45_ok [] (by kernel_rfl) ?_; simp  [-List.getD_eq_getElem?_getD, -List.drop_one, ↓zaab, ↓zaaa, go_sem]
    | refine zaac (id := 3) Γ45_ok [] (by kernel_rfl) ?_; simp  [-List.getD_eq_getElem?_getD, -List.drop_one, ↓zaab, ↓zaaa, go_sem, (by decide : IntKind.i64.wrap 0 = 0), wrap_in (x := n) (by omega) (by omega)]
    | refine zaac (id := 4) Γ45_ok [] (by kernel_rfl) ?_; simp  [-List.getD_eq_getElem?_getD, -List.drop_one, ↓zaab, ↓zaaa, go_sem]
    | refine zaac (id := 5) Γ45_ok [] (by kernel_rfl) ?_; simp  [-List.getD_eq_getElem?_getD, -List.drop_one, ↓zaab, ↓zaaa, go_sem, (by omega : (1 : Int) ≤ n), (by omega : n ≤ 9223372036854775807), (by omega : n.toNat * 8 ≤ 281474976710656), (by omega : 0 ≤ n), (by omega : (0 : Int) ≤ max n 0)]
    | (first | refine AW_nilfr 0 1 rfl ?_ | skip); refine zaac (id := 6) Γ45_ok [] (by kernel_rfl) ?_; simp  [-List.getD_eq_getElem?_getD, -List.drop_one, ↓zaab, ↓zaaa, go_sem]
    | refine zaaf (c := .tmp 6) ?_; simp [-List.getD_eq_getElem?_getD, -List.drop_one, ↓zaab, ↓zaaa, go_sem]; try first | (refine ⟨?_, ?_⟩ <;> change AW _ _ _ _ _ _) | (refine ⟨fun c6 => ?_, fun c6 => ?_⟩ <;> (try simp [B_iff, B_not] at c6))
    | refine zaaf (c := .tmp 16) ?_; simp [-List.getD_eq_getElem?_getD, -List.drop_one, ↓zaab, ↓zaaa, go_sem]; try first | (refine ⟨?_, ?_⟩ <;> change AW _ _ _ _ _ _) | (refine ⟨fun c16 => ?_, fun c16 => ?_⟩ <;> (try simp [B_iff, B_not] at c16))
    | (refine zaag ?_)
    | (refine zaap ?_; simp [-List.getD_eq_getElem?_getD, -List.drop_one, ↓zaab, ↓zaaa, go_sem])
    | (refine zaan ?_; simp [-List.getD_eq_getElem?_getD, -List.drop_one, ↓zaab, ↓zaaa, go_sem])
    | (refine AW_ret ?_; simp [-List.getD_eq_getElem?_getD, -List.drop_one, ↓zaab, ↓zaaa, go_sem, Try.results194])
    | (intro hx; change AW _ _ _ _ _ _)
    | (refine ⟨?_, ?_⟩ <;> change AW _ _ _ _ _ _)
    | (intro hx; refine ⟨fun hs => ?_, fun hs => ?_⟩)
    | (refine ⟨fun hs => ?_, fun hs => ?_⟩)
    | (refine ⟨?_, fun hs => ?_⟩; change AW _ _ _ _ _ _)
    | (refine ⟨fun hs => ?_, ?_⟩; rotate_left; change AW _ _ _ _ _ _; rotate_left)
    | (exfalso; omega)))
def growC : Con := .gen fun args H => match args with
  | [.nil, .int .i64 n] => (0 ≤ n ∧ n ≤ 1048576, .fr 1 0 [], H)
  | _ => (False, .any, H)
attribute [go_sem] growC
theorem growC_ok : ConOk Try.prog 194 growC := by
  refine ⟨zaal Try.func194 (by decide) rfl, fun args H h => ?_⟩
  revert h
  dsimp only
  split
  · rintro ⟨h0, h1⟩
    exact grow_spec _ H h0 h1
  · intro h
    exact h.elim
noncomputable def Γ46 : FuncId → Con := ext Γ45 194 growC
attribute [go_sem] Γ46
theorem Γ46_ok : ∀ g, ConOk Try.prog g (Γ46 g) := ext_ok Γ45_ok growC_ok

@[go_sem] theorem makeD_two (x : D) : makeD [x] 2 = [x, x] := by rw [makeD_one]; rfl
@[go_sem] theorem is_two (a b : List Int) {n m : Nat} (h1 : n = a.length) (h2 : m = b.length) : Is cL 2 [.list n (cat cI a), .list m (cat cI b)] = True := by subst h1 h2; exact eq_true ⟨[a, b], rfl, rfl⟩
@[go_sem] theorem de_two (a b : List Int) {n m : Nat} (h1 : n = a.length) (h2 : m = b.length) : de cL [.list n (cat cI a), .list m (cat cI b)] = [a, b] := by
  subst h1 h2
  have := de_cat (f := cL) [a, b]; exact this
noncomputable def Γ47 : FuncId → Con := Γ46
attribute [go_sem] Γ47
theorem Γ47_ok : ∀ g, ConOk Try.prog g (Γ47 g) := Γ46_ok

noncomputable def Γ48 : FuncId → Con := Γ47
attribute [go_sem] Γ48
theorem Γ48_ok : ∀ g, ConOk Try.prog g (Γ48 g) := Γ47_ok

end Go.Proofs.Ytkjimmkemnmajaa.Vm

