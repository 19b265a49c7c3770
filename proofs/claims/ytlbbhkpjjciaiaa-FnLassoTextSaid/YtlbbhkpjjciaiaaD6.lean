/-
  Letters of lassos. No conditions.
-/
import Derived.Test.YtlbbhkpjjciaiaaD5
namespace Go.Proofs.Ytlbbhkpjjciaiaa.Vm
open Go
set_option linter.unusedVariables false
set_option linter.unusedSimpArgs false
set_option maxRecDepth 200000

/-- The letter at a position. -/
def letter (a b : List Int) (i : Int) : Int := if i < a.length then nth a i.toNat else nth b (turn a b i)
/-- What LetterAt answers. -/
noncomputable def letD (a b : List Int) (i : Int) : D := if B (LasOk a b) = true ∧ ¬ i < 0 then .tup [.int .i64 (letter a b i), .bool true] else .tup [.int .i64 0, .bool false]
@[go_sem] theorem letD_closed (a b : List Int) (i : Int) : closed (letD a b i) = true := by unfold letD; split <;> rfl
@[go_sem] theorem letD_bnd (N : Nat) (a b : List Int) (i : Int) : bnd N (letD a b i) := by unfold letD; split <;> simp [bnd, bndL]

set_option maxHeartbeats 1000000 in
theorem specLetterAt_pure (a : List Int) (b : List Int) (i : Int) (h4 : i ≤ 9223372036854775807) : Pure Try.prog 22 [.st [li cI a, li cI b], .int .i64 i] (letD a b i) := by
  refine Pure.of_walk Try.func22 rfl (by simp [Try.f22]) (by simp [-List.drop_one, go_sem]) fun B hK => ?_
  cases hv : Vm.B (LasOk a b) <;> by_cases h0 : i < 0 <;> by_cases hi : i < (a.length : Int)
  all_goals (repeat' (first
    | refine AW_seq ?_
    | refine AW_region (id := 0) Γs44_ok [] (by kernel_rfl) ?_; simp  [-List.getD_eq_getElem?_getD, -List.drop_one, ↓splitB_true, ↓splitB_false, go_sem]; try (refine AW_data hK 2 ?_; simp [go_sem])
    | refine AW_region (id := 1) Γs44_ok [10] (by kernel_rfl) ?_; simp  [-List.getD_eq_getElem?_getD, -List.drop_one, ↓splitB_true, ↓splitB_false, go_sem, hv, h0]; try (refine ⟨fun s1a => ?_, fun s1a => ?_⟩ <;> (try simp [B_iff, B_not] at s1a) <;> try (refine ⟨fun s1b => ?_, fun s1b => ?_⟩ <;> (try simp [B_iff, B_not] at s1b)))
    | refine AW_region (id := 2) Γs44_ok [] (by kernel_rfl) ?_; simp  [-List.getD_eq_getElem?_getD, -List.drop_one, ↓splitB_true, ↓splitB_false, go_sem]
    | (have hL : LasOk a b := (by rw [B_iff] at hv; exact hv); obtain ⟨_, _, g3, g4, g5⟩ := hL); refine AW_region (id := 3) Γs44_ok [] (by kernel_rfl) ?_; simp  [-List.getD_eq_getElem?_getD, -List.drop_one, ↓splitB_true, ↓splitB_false, go_sem, g3, g5, h4, (show 0 < b.length by omega), (show 0 ≤ i by omega), hi]
    | refine AW_region (id := 4) Γs44_ok [] (by kernel_rfl) ?_; simp  [-List.getD_eq_getElem?_getD, -List.drop_one, ↓splitB_true, ↓splitB_false, go_sem, hi]
    | (have i1 : i.toNat < a.length := (by omega)); refine AW_region (id := 5) Γs44_ok [] (by kernel_rfl) ?_; simp  [-List.getD_eq_getElem?_getD, -List.drop_one, ↓splitB_true, ↓splitB_false, go_sem, i1, ne_nil i1, Nat.sub_pos_of_lt i1, hi, (show 0 ≤ i by omega)]
    | (obtain ⟨t1, t2⟩ := turn_lt (a := a) (b := b) (i := i) (by omega) (by omega)); refine AW_region (id := 6) Γs44_ok [] (by kernel_rfl) ?_; simp  [-List.getD_eq_getElem?_getD, -List.drop_one, ↓splitB_true, ↓splitB_false, go_sem, t2, ne_nil t2, Nat.sub_pos_of_lt t2, (show IntKind.i64.wrap ((a.length : Int) + turn a b i - a.length) = turn a b i by rw [wrap_in (by omega) (by omega)]; omega)]
    | refine AW_condA (c := .tmp 13) ?_; simp [-List.getD_eq_getElem?_getD, -List.drop_one, ↓splitB_true, ↓splitB_false, go_sem]; try first | (refine ⟨?_, ?_⟩ <;> change AW _ _ _ _ _ _) | (refine ⟨fun c13 => ?_, fun c13 => ?_⟩ <;> (try simp [B_iff, B_not] at c13))
    | refine AW_condA (c := .tmp 21) ?_; simp [-List.getD_eq_getElem?_getD, -List.drop_one, ↓splitB_true, ↓splitB_false, go_sem]; try first | (refine ⟨?_, ?_⟩ <;> change AW _ _ _ _ _ _) | (refine ⟨fun c21 => ?_, fun c21 => ?_⟩ <;> (try simp [B_iff, B_not] at c21))
    | (refine AW_block ?_)
    | (refine AW_exit ?_; simp [-List.getD_eq_getElem?_getD, -List.drop_one, ↓splitB_true, ↓splitB_false, go_sem])
    | (refine AW_skip ?_; simp [-List.getD_eq_getElem?_getD, -List.drop_one, ↓splitB_true, ↓splitB_false, go_sem])
    | (refine AW_ret ?_; simp [-List.getD_eq_getElem?_getD, -List.drop_one, ↓splitB_true, ↓splitB_false, go_sem, Try.results22])
    | (intro hx; change AW _ _ _ _ _ _)
    | (refine ⟨?_, ?_⟩ <;> change AW _ _ _ _ _ _)
    | (intro hx; refine ⟨fun hs => ?_, fun hs => ?_⟩)
    | (refine ⟨fun hs => ?_, fun hs => ?_⟩)
    | (refine ⟨?_, fun hs => ?_⟩; change AW _ _ _ _ _ _)
    | (refine ⟨fun hs => ?_, ?_⟩; rotate_left; change AW _ _ _ _ _ _; rotate_left)
    | (exfalso; omega)))
  all_goals (first
    | (simp [letD, letter, hv, h0, hi]; done)
    | skip)
noncomputable def specLetterAt_pureC : Con := .pure fun
  | [.st [.list n_a c_a, .list n_b c_b], .int .i64 i] => ((Is cI n_a c_a) ∧ (Is cI n_b c_b) ∧ (i ≤ 9223372036854775807), letD (de cI c_a) (de cI c_b) i)
  | _ => (False, .any)
attribute [go_sem] specLetterAt_pureC
theorem specLetterAt_pureC_ok : ConOk Try.prog 22 specLetterAt_pureC := by
  refine ⟨callable Try.func22 (by decide) rfl, fun args h => ?_⟩
  revert h
  dsimp only
  split
  · intro h
    obtain ⟨⟨a, rfl, rfl⟩, ⟨b, rfl, rfl⟩, h4⟩ := h
    try simp only [de_cat] at *
    exact ⟨specLetterAt_pure a b _ h4, by simp [go_sem]⟩
  · intro h
    exact h.elim
noncomputable def Γs45 : FuncId → Con := ext Γs44 22 specLetterAt_pureC
attribute [go_sem] Γs45
theorem Γs45_ok : ∀ g, ConOk Try.prog g (Γs45 g) := ext_ok Γs44_ok specLetterAt_pureC_ok

set_option maxHeartbeats 1000000 in
theorem implLetterAt_pure (a : List Int) (b : List Int) (i : Int) (h4 : i ≤ 9223372036854775807) : Pure Try.prog 21 [.st [li cI a, li cI b], .int .i64 i] (letD a b i) := by
  refine Pure.of_walk Try.func21 rfl (by simp [Try.f21]) (by simp [-List.drop_one, go_sem]) fun B hK => ?_
  cases hv : Vm.B (LasOk a b) <;> by_cases h0 : i < 0 <;> by_cases hi : i < (a.length : Int)
  all_goals (repeat' (first
    | refine AW_seq ?_
    | refine AW_region (id := 0) Γs45_ok [] (by kernel_rfl) ?_; simp  [-List.getD_eq_getElem?_getD, -List.drop_one, ↓splitB_true, ↓splitB_false, go_sem]; try (refine AW_data hK 2 ?_; simp [go_sem])
    | refine AW_region (id := 1) Γs45_ok [10] (by kernel_rfl) ?_; simp  [-List.getD_eq_getElem?_getD, -List.drop_one, ↓splitB_true, ↓splitB_false, go_sem, hv, h0]; try (refine ⟨fun s1a => ?_, fun s1a => ?_⟩ <;> (try simp [B_iff, B_not] at s1a) <;> try (refine ⟨fun s1b => ?_, fun s1b => ?_⟩ <;> (try simp [B_iff, B_not] at s1b)))
    | refine AW_region (id := 2) Γs45_ok [] (by kernel_rfl) ?_; simp  [-List.getD_eq_getElem?_getD, -List.drop_one, ↓splitB_true, ↓splitB_false, go_sem]
    | (have hL : LasOk a b := (by rw [B_iff] at hv; exact hv); obtain ⟨_, _, g3, g4, g5⟩ := hL); refine AW_region (id := 3) Γs45_ok [] (by kernel_rfl) ?_; simp  [-List.getD_eq_getElem?_getD, -List.drop_one, ↓splitB_true, ↓splitB_false, go_sem, hi]
    | (have i1 : i.toNat < a.length := (by omega)); refine AW_region (id := 4) Γs45_ok [] (by kernel_rfl) ?_; simp  [-List.getD_eq_getElem?_getD, -List.drop_one, ↓splitB_true, ↓splitB_false, go_sem, i1, ne_nil i1, Nat.sub_pos_of_lt i1, hi, (show 0 ≤ i by omega)]
    | (obtain ⟨t1, t2⟩ := turn_lt (a := a) (b := b) (i := i) (by omega) (by omega)); refine AW_region_draw (id := 5) Γs45_ok mixed [] [2] (by kernel_rfl) (by kernel_rfl) (by simp [-List.getD_eq_getElem?_getD, -List.drop_one, ↓splitB_true, ↓splitB_false, go_sem, t1, t2, ne_nil t2, Nat.sub_pos_of_lt t2, (show IntKind.i64.wrap (i - a.length) = i - a.length by rw [wrap_in (by omega) (by omega)]), (show ¬ b = [] by rintro rfl; simp at g4)]) ?_; simp  [-List.getD_eq_getElem?_getD, -List.drop_one, ↓splitB_true, ↓splitB_false, go_sem, t1, t2, ne_nil t2, Nat.sub_pos_of_lt t2, (show IntKind.i64.wrap (i - a.length) = i - a.length by rw [wrap_in (by omega) (by omega)]), (show ¬ b = [] by rintro rfl; simp at g4)]
    | refine AW_condA (c := .tmp 6) ?_; simp [-List.getD_eq_getElem?_getD, -List.drop_one, ↓splitB_true, ↓splitB_false, go_sem]; try first | (refine ⟨?_, ?_⟩ <;> change AW _ _ _ _ _ _) | (refine ⟨fun c6 => ?_, fun c6 => ?_⟩ <;> (try simp [B_iff, B_not] at c6))
    | refine AW_condA (c := .tmp 14) ?_; simp [-List.getD_eq_getElem?_getD, -List.drop_one, ↓splitB_true, ↓splitB_false, go_sem]; try first | (refine ⟨?_, ?_⟩ <;> change AW _ _ _ _ _ _) | (refine ⟨fun c14 => ?_, fun c14 => ?_⟩ <;> (try simp [B_iff, B_not] at c14))
    | (refine AW_block ?_)
    | (refine AW_exit ?_; simp [-List.getD_eq_getElem?_getD, -List.drop_one, ↓splitB_true, ↓splitB_false, go_sem])
    | (refine AW_skip ?_; simp [-List.getD_eq_getElem?_getD, -List.drop_one, ↓splitB_true, ↓splitB_false, go_sem])
    | (refine AW_ret ?_; simp [-List.getD_eq_getElem?_getD, -List.drop_one, ↓splitB_true, ↓splitB_false, go_sem, Try.results21])
    | (intro hx; change AW _ _ _ _ _ _)
    | (refine ⟨?_, ?_⟩ <;> change AW _ _ _ _ _ _)
    | (intro hx; refine ⟨fun hs => ?_, fun hs => ?_⟩)
    | (refine ⟨fun hs => ?_, fun hs => ?_⟩)
    | (refine ⟨?_, fun hs => ?_⟩; change AW _ _ _ _ _ _)
    | (refine ⟨fun hs => ?_, ?_⟩; rotate_left; change AW _ _ _ _ _ _; rotate_left)
    | (exfalso; omega)))
  all_goals (first
    | (simp [letD, letter, hv, h0, hi]; done)
    | skip)
noncomputable def implLetterAt_pureC : Con := .pure fun
  | [.st [.list n_a c_a, .list n_b c_b], .int .i64 i] => ((Is cI n_a c_a) ∧ (Is cI n_b c_b) ∧ (i ≤ 9223372036854775807), letD (de cI c_a) (de cI c_b) i)
  | _ => (False, .any)
attribute [go_sem] implLetterAt_pureC
theorem implLetterAt_pureC_ok : ConOk Try.prog 21 implLetterAt_pureC := by
  refine ⟨callable Try.func21 (by decide) rfl, fun args h => ?_⟩
  revert h
  dsimp only
  split
  · intro h
    obtain ⟨⟨a, rfl, rfl⟩, ⟨b, rfl, rfl⟩, h4⟩ := h
    try simp only [de_cat] at *
    exact ⟨implLetterAt_pure a b _ h4, by simp [go_sem]⟩
  · intro h
    exact h.elim
noncomputable def Γs46 : FuncId → Con := ext Γs45 21 implLetterAt_pureC
attribute [go_sem] Γs46
theorem Γs46_ok : ∀ g, ConOk Try.prog g (Γs46 g) := ext_ok Γs45_ok implLetterAt_pureC_ok
end Go.Proofs.Ytlbbhkpjjciaiaa.Vm

