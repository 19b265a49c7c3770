/-
  SuffixAt, both ways. No conditions.
-/
import Derived.Test.YtlbbhkpjjciaiaaS1
namespace Go.Proofs.Ytlbbhkpjjciaiaa.Vm
open Go
set_option linter.unusedVariables false
set_option linter.unusedSimpArgs false
set_option maxRecDepth 200000

/-- Where a position behind the stem stands in the loop. -/
def turn (a b : List Int) (i : Int) : Nat := ((i - a.length).tmod b.length).toNat
theorem turn_lt {a b : List Int} {i : Int} (h : 0 < b.length) (hi : (a.length : Int) ≤ i) : (i - a.length).tmod b.length = turn a b i ∧ turn a b i < b.length := by
  have h1 : 0 ≤ (i - a.length).tmod b.length := Int.tmod_nonneg _ (by omega)
  have h2 : (i - a.length).tmod b.length < b.length := Int.tmod_lt_of_pos _ (by omega)
  unfold turn
  omega

theorem l6Index_pure (a : List Int) (b : List Int) (i : Int) (h0 : 0 < b.length) (h1 : b.length ≤ 80) (h2 : a.length ≤ 80) (h3 : 0 ≤ i) (h4 : i ≤ 9223372036854775807) : Pure Try.prog 57 [.st [li cI a, li cI b], .int .i64 i] (.int .i64 (if i < a.length then i else a.length + turn a b i)) := by
  refine Pure.of_walk Try.func57 rfl (by simp [Try.f57]) (by simp [-List.drop_one, go_sem]) fun B hK => ?_
  by_cases hi : i < (a.length : Int)
  all_goals (repeat' (first
    | refine AW_seq ?_
    | refine AW_region (id := 0) Γs15_ok [] (by kernel_rfl) ?_; simp  [-List.getD_eq_getElem?_getD, -List.drop_one, ↓splitB_true, ↓splitB_false, go_sem]; try (refine AW_data hK 2 ?_; simp [go_sem])
    | refine AW_region (id := 1) Γs15_ok [] (by kernel_rfl) ?_; simp  [-List.getD_eq_getElem?_getD, -List.drop_one, ↓splitB_true, ↓splitB_false, go_sem]
    | refine AW_region (id := 2) Γs15_ok [] (by kernel_rfl) ?_; simp  [-List.getD_eq_getElem?_getD, -List.drop_one, ↓splitB_true, ↓splitB_false, go_sem]
    | (obtain ⟨t1, t2⟩ := turn_lt (i := i) h0 (show (a.length : Int) ≤ i by omega)); refine AW_region_draw (id := 3) Γs15_ok mixed [] [2] (by kernel_rfl) (by kernel_rfl) (by simp [-List.getD_eq_getElem?_getD, -List.drop_one, ↓splitB_true, ↓splitB_false, go_sem, wrap_in (x := i - a.length) (by omega) (by omega), t1, wrap_in (x := (a.length : Int) + turn a b i) (by omega) (by omega), (show ¬ b = [] by rintro rfl; simp at h0)]) ?_; simp  [-List.getD_eq_getElem?_getD, -List.drop_one, ↓splitB_true, ↓splitB_false, go_sem, wrap_in (x := i - a.length) (by omega) (by omega), t1, wrap_in (x := (a.length : Int) + turn a b i) (by omega) (by omega), (show ¬ b = [] by rintro rfl; simp at h0)]
    | refine AW_condA (c := .tmp 9) ?_; simp [-List.getD_eq_getElem?_getD, -List.drop_one, ↓splitB_true, ↓splitB_false, go_sem]; try first | (refine ⟨?_, ?_⟩ <;> change AW _ _ _ _ _ _) | (refine ⟨fun c9 => ?_, fun c9 => ?_⟩ <;> (try simp [B_iff, B_not] at c9))
    | (refine AW_block ?_)
    | (refine AW_exit ?_; simp [-List.getD_eq_getElem?_getD, -List.drop_one, ↓splitB_true, ↓splitB_false, go_sem])
    | (refine AW_skip ?_; simp [-List.getD_eq_getElem?_getD, -List.drop_one, ↓splitB_true, ↓splitB_false, go_sem])
    | (refine AW_ret ?_; simp [-List.getD_eq_getElem?_getD, -List.drop_one, ↓splitB_true, ↓splitB_false, go_sem, Try.results57])
    | (intro hx; change AW _ _ _ _ _ _)
    | (refine ⟨?_, ?_⟩ <;> change AW _ _ _ _ _ _)
    | (intro hx; refine ⟨fun hs => ?_, fun hs => ?_⟩)
    | (refine ⟨fun hs => ?_, fun hs => ?_⟩)
    | (refine ⟨?_, fun hs => ?_⟩; change AW _ _ _ _ _ _)
    | (refine ⟨fun hs => ?_, ?_⟩; rotate_left; change AW _ _ _ _ _ _; rotate_left)))
  all_goals (first
    | (rw [if_pos hi])
    | (rw [if_neg hi])
    | (intro h; exact absurd h hi)
    | (intro h; omega)
    | (simp_all; done)
    | skip)
noncomputable def l6Index_pureC : Con := .pure fun
  | [.st [.list n_a c_a, .list n_b c_b], .int .i64 i] => ((Is cI n_a c_a) ∧ (Is cI n_b c_b) ∧ (0 < (de cI c_b).length) ∧ ((de cI c_b).length ≤ 80) ∧ ((de cI c_a).length ≤ 80) ∧ (0 ≤ i) ∧ (i ≤ 9223372036854775807), .int .i64 (if i < (de cI c_a).length then i else (de cI c_a).length + turn (de cI c_a) (de cI c_b) i))
  | _ => (False, .any)
attribute [go_sem] l6Index_pureC
theorem l6Index_pureC_ok : ConOk Try.prog 57 l6Index_pureC := by
  refine ⟨callable Try.func57 (by decide) rfl, fun args h => ?_⟩
  revert h
  dsimp only
  split
  · intro h
    obtain ⟨⟨a, rfl, rfl⟩, ⟨b, rfl, rfl⟩, h0, h1, h2, h3, h4⟩ := h
    try simp only [de_cat] at *
    exact ⟨l6Index_pure a b _ h0 h1 h2 h3 h4, by simp [go_sem]⟩
  · intro h
    exact h.elim
noncomputable def Γs16 : FuncId → Con := ext Γs15 57 l6Index_pureC
attribute [go_sem] Γs16
theorem Γs16_ok : ∀ g, ConOk Try.prog g (Γs16 g) := ext_ok Γs15_ok l6Index_pureC_ok

set_option maxHeartbeats 2000000 in
theorem specSuffixAt_pure (a : List Int) (b : List Int) (i : Int) (h4 : i ≤ 9223372036854775807) : Pure Try.prog 30 [.st [li cI a, li cI b], .int .i64 i] (if B (LasOk a b ∧ 0 ≤ i) = true then (if i < a.length then .tup [.st [fr 1 cI (a.drop i.toNat), fr 1 cI b], .bool true] else .tup [.st [.fr 1 0 [], fr 1 cI (b.drop (turn a b i) ++ b.take (turn a b i))], .bool true]) else .tup [.st [.nil, .nil], .bool false]) := by
  refine Pure.of_walk Try.func30 rfl (by simp [Try.f30]) (by simp [-List.drop_one, go_sem]) fun B hK => ?_
  by_cases hi : i < (a.length : Int)
  all_goals (repeat' (first
    | refine AW_seq ?_
    | refine AW_region (id := 0) Γs16_ok [] (by kernel_rfl) ?_; simp  [-List.getD_eq_getElem?_getD, -List.drop_one, ↓splitB_true, ↓splitB_false, go_sem, cat_append]; try (refine AW_data hK 2 ?_; simp [go_sem])
    | refine AW_region (id := 1) Γs16_ok [10] (by kernel_rfl) ?_; simp  [-List.getD_eq_getElem?_getD, -List.drop_one, ↓splitB_true, ↓splitB_false, go_sem, cat_append]; try (refine ⟨fun s1a => ?_, fun s1a => ?_⟩ <;> (try simp [B_iff, B_not] at s1a) <;> try (refine ⟨fun s1b => ?_, fun s1b => ?_⟩ <;> (try simp [B_iff, B_not] at s1b)))
    | refine AW_region (id := 2) Γs16_ok [] (by kernel_rfl) ?_; simp  [-List.getD_eq_getElem?_getD, -List.drop_one, ↓splitB_true, ↓splitB_false, go_sem, cat_append]
    | (have hL : LasOk a b := (by assumption); obtain ⟨_, _, g3, g4, g5⟩ := hL); refine AW_region (id := 3) Γs16_ok [] (by kernel_rfl) ?_; simp  [-List.getD_eq_getElem?_getD, -List.drop_one, ↓splitB_true, ↓splitB_false, go_sem, g3, g4, g5, h4, (show 0 < b.length by omega), (show a.length ≤ 80 by omega), (show b.length ≤ 80 by omega), (show 0 ≤ i by omega), hi, cat_append]
    | refine AW_region (id := 4) Γs16_ok [] (by kernel_rfl) ?_; simp  [-List.getD_eq_getElem?_getD, -List.drop_one, ↓splitB_true, ↓splitB_false, go_sem, cat_append]
    | refine AW_region_draw (id := 5) Γs16_ok mixed [] [2] (by kernel_rfl) (by kernel_rfl) (by simp [-List.getD_eq_getElem?_getD, -List.drop_one, ↓splitB_true, ↓splitB_false, go_sem, (show ((a.length : Int) - i).toNat = a.length - i.toNat by omega), (show 0 ≤ i by omega), (show i ≤ a.length by omega), (show (a.length : Int) - i ≤ 9223372036854775807 by omega), (show a.length - i.toNat ≤ 9223372036854775807 by omega), (show 2 * (a.length - i.toNat) * 8 ≤ 281474976710656 by omega), (show b.length ≤ 9223372036854775807 by omega), (show 2 * b.length * 8 ≤ 281474976710656 by omega), cat_append]) ?_; simp  [-List.getD_eq_getElem?_getD, -List.drop_one, ↓splitB_true, ↓splitB_false, go_sem, (show ((a.length : Int) - i).toNat = a.length - i.toNat by omega), (show 0 ≤ i by omega), (show i ≤ a.length by omega), (show (a.length : Int) - i ≤ 9223372036854775807 by omega), (show a.length - i.toNat ≤ 9223372036854775807 by omega), (show 2 * (a.length - i.toNat) * 8 ≤ 281474976710656 by omega), (show b.length ≤ 9223372036854775807 by omega), (show 2 * b.length * 8 ≤ 281474976710656 by omega), cat_append]
    | (obtain ⟨t1, t2⟩ := turn_lt (a := a) (b := b) (i := i) (by omega) (by omega)); refine AW_region (id := 6) Γs16_ok [] (by kernel_rfl) ?_; simp  [-List.getD_eq_getElem?_getD, -List.drop_one, ↓splitB_true, ↓splitB_false, go_sem, (show IntKind.i64.wrap ((a.length : Int) + turn a b i - a.length) = turn a b i by rw [wrap_in (by omega) (by omega)]; omega), cat_append]
    | refine AW_region_draw (id := 7) Γs16_ok mixed [] [2, 6] (by kernel_rfl) (by kernel_rfl) (by simp [-List.getD_eq_getElem?_getD, -List.drop_one, ↓splitB_true, ↓splitB_false, go_sem, (show b.length ≤ 9223372036854775807 by omega), (show 2 * b.length * 8 ≤ 281474976710656 by omega), (show (((b.length : Int) - turn a b i).toNat) = b.length - turn a b i by omega), (show turn a b i ≤ b.length by omega), (show min (turn a b i) b.length = turn a b i by omega), (show (b.length : Int) - turn a b i ≤ 9223372036854775807 by omega), (show b.length - turn a b i ≤ 9223372036854775807 by omega), (show 2 * (b.length - turn a b i) * 8 ≤ 281474976710656 by omega), (show b.length - turn a b i + turn a b i ≤ 9223372036854775807 by omega), (show 2 * (b.length - turn a b i + turn a b i) * 8 ≤ 281474976710656 by omega), cat_append]) ?_; simp  [-List.getD_eq_getElem?_getD, -List.drop_one, ↓splitB_true, ↓splitB_false, go_sem, (show b.length ≤ 9223372036854775807 by omega), (show 2 * b.length * 8 ≤ 281474976710656 by omega), (show (((b.length : Int) - turn a b i).toNat) = b.length - turn a b i by omega), (show turn a b i ≤ b.length by omega), (show min (turn a b i) b.length = turn a b i by omega), (show (b.length : Int) - turn a b i ≤ 9223372036854775807 by omega), (show b.length - turn a b i ≤ 9223372036854775807 by omega), (show 2 * (b.length - turn a b i) * 8 ≤ 281474976710656 by omega), (show b.length - turn a b i + turn a b i ≤ 9223372036854775807 by omega), (show 2 * (b.length - turn a b i + turn a b i) * 8 ≤ 281474976710656 by omega), cat_append]
    | refine AW_condA (c := .tmp 13) ?_; simp [-List.getD_eq_getElem?_getD, -List.drop_one, ↓splitB_true, ↓splitB_false, go_sem, cat_append]; try first | (refine ⟨?_, ?_⟩ <;> change AW _ _ _ _ _ _) | (refine ⟨fun c13 => ?_, fun c13 => ?_⟩ <;> (try simp [B_iff, B_not] at c13))
    | refine AW_condA (c := .tmp 22) ?_; simp [-List.getD_eq_getElem?_getD, -List.drop_one, ↓splitB_true, ↓splitB_false, go_sem, cat_append]; try first | (refine ⟨?_, ?_⟩ <;> change AW _ _ _ _ _ _) | (refine ⟨fun c22 => ?_, fun c22 => ?_⟩ <;> (try simp [B_iff, B_not] at c22))
    | (refine AW_block ?_)
    | (refine AW_exit ?_; simp [-List.getD_eq_getElem?_getD, -List.drop_one, ↓splitB_true, ↓splitB_false, go_sem])
    | (refine AW_skip ?_; simp [-List.getD_eq_getElem?_getD, -List.drop_one, ↓splitB_true, ↓splitB_false, go_sem])
    | (refine AW_ret ?_; simp [-List.getD_eq_getElem?_getD, -List.drop_one, ↓splitB_true, ↓splitB_false, go_sem, Try.results30, cat_append])
    | (intro hx; change AW _ _ _ _ _ _)
    | (refine ⟨?_, ?_⟩ <;> change AW _ _ _ _ _ _)
    | (intro hx; refine ⟨fun hs => ?_, fun hs => ?_⟩)
    | (refine ⟨fun hs => ?_, fun hs => ?_⟩)
    | (refine ⟨?_, fun hs => ?_⟩; change AW _ _ _ _ _ _)
    | (refine ⟨fun hs => ?_, ?_⟩; rotate_left; change AW _ _ _ _ _ _; rotate_left)
    | (exfalso; omega)))
  all_goals (first
    | (intro h; exact absurd h s1a)
    | (intro _ h; omega)
    | (rw [if_pos (by rw [B_iff]; exact ⟨s1a, by omega⟩), List.take_of_length_le (by simp)])
    | (rw [cat_append])
    | skip)
noncomputable def specSuffixAt_pureC : Con := .pure fun
  | [.st [.list n_a c_a, .list n_b c_b], .int .i64 i] => ((Is cI n_a c_a) ∧ (Is cI n_b c_b) ∧ (i ≤ 9223372036854775807), if B (LasOk (de cI c_a) (de cI c_b) ∧ 0 ≤ i) = true then (if i < (de cI c_a).length then .tup [.st [fr 1 cI ((de cI c_a).drop i.toNat), fr 1 cI (de cI c_b)], .bool true] else .tup [.st [.fr 1 0 [], fr 1 cI ((de cI c_b).drop (turn (de cI c_a) (de cI c_b) i) ++ (de cI c_b).take (turn (de cI c_a) (de cI c_b) i))], .bool true]) else .tup [.st [.nil, .nil], .bool false])
  | _ => (False, .any)
attribute [go_sem] specSuffixAt_pureC
theorem specSuffixAt_pureC_ok : ConOk Try.prog 30 specSuffixAt_pureC := by
  refine ⟨callable Try.func30 (by decide) rfl, fun args h => ?_⟩
  revert h
  dsimp only
  split
  · intro h
    obtain ⟨⟨a, rfl, rfl⟩, ⟨b, rfl, rfl⟩, h4⟩ := h
    try simp only [de_cat] at *
    exact ⟨specSuffixAt_pure a b _ h4, by simp [go_sem]⟩
  · intro h
    exact h.elim
noncomputable def Γs17 : FuncId → Con := ext Γs16 30 specSuffixAt_pureC
attribute [go_sem] Γs17
theorem Γs17_ok : ∀ g, ConOk Try.prog g (Γs17 g) := ext_ok Γs16_ok specSuffixAt_pureC_ok

set_option maxHeartbeats 2000000 in
theorem implSuffixAt_pure (a : List Int) (b : List Int) (i : Int) (h4 : i ≤ 9223372036854775807) : Pure Try.prog 31 [.st [li cI a, li cI b], .int .i64 i] (if B (LasOk a b ∧ 0 ≤ i) = true then (if i < a.length then .tup [.st [fr 1 cI (a.drop i.toNat), fr 1 cI b], .bool true] else .tup [.st [.nil, fr 1 cI (b.drop (turn a b i) ++ b.take (turn a b i))], .bool true]) else .tup [.st [.nil, .nil], .bool false]) := by
  refine Pure.of_walk Try.func31 rfl (by simp [Try.f31]) (by simp [-List.drop_one, go_sem]) fun B hK => ?_
  by_cases hi : i < (a.length : Int)
  all_goals (repeat' (first
    | refine AW_seq ?_
    | refine AW_region (id := 0) Γs17_ok [] (by kernel_rfl) ?_; simp  [-List.getD_eq_getElem?_getD, -List.drop_one, ↓splitB_true, ↓splitB_false, go_sem]; try (refine AW_data hK 2 ?_; simp [go_sem])
    | refine AW_region (id := 1) Γs17_ok [11] (by kernel_rfl) ?_; simp  [-List.getD_eq_getElem?_getD, -List.drop_one, ↓splitB_true, ↓splitB_false, go_sem]; try (refine ⟨fun s1a => ?_, fun s1a => ?_⟩ <;> (try simp [B_iff, B_not] at s1a) <;> try (refine ⟨fun s1b => ?_, fun s1b => ?_⟩ <;> (try simp [B_iff, B_not] at s1b)))
    | refine AW_region (id := 2) Γs17_ok [] (by kernel_rfl) ?_; simp  [-List.getD_eq_getElem?_getD, -List.drop_one, ↓splitB_true, ↓splitB_false, go_sem]
    | (have hL : LasOk a b := (by assumption); obtain ⟨_, _, g3, g4, g5⟩ := hL); refine AW_region (id := 3) Γs17_ok [] (by kernel_rfl) ?_; simp  [-List.getD_eq_getElem?_getD, -List.drop_one, ↓splitB_true, ↓splitB_false, go_sem, hi]
    | refine AW_region_draw (id := 4) Γs17_ok mixed [] [2] (by kernel_rfl) (by kernel_rfl) (by simp [-List.getD_eq_getElem?_getD, -List.drop_one, ↓splitB_true, ↓splitB_false, go_sem, (show ((a.length : Int) - i).toNat = a.length - i.toNat by omega), (show 0 ≤ i by omega), (show i ≤ a.length by omega), (show a.length - i.toNat ≤ 1048576 by omega), (show b.length ≤ 1048576 by omega)]) ?_; simp  [-List.getD_eq_getElem?_getD, -List.drop_one, ↓splitB_true, ↓splitB_false, go_sem, (show ((a.length : Int) - i).toNat = a.length - i.toNat by omega), (show 0 ≤ i by omega), (show i ≤ a.length by omega), (show a.length - i.toNat ≤ 1048576 by omega), (show b.length ≤ 1048576 by omega)]
    | (obtain ⟨t1, t2⟩ := turn_lt (a := a) (b := b) (i := i) (by omega) (by omega)); refine AW_region (id := 5) Γs17_ok [] (by kernel_rfl) ?_; simp  [-List.getD_eq_getElem?_getD, -List.drop_one, ↓splitB_true, ↓splitB_false, go_sem, (show IntKind.i64.wrap (i - a.length) = i - a.length by rw [wrap_in (by omega) (by omega)]), t1, (show ¬ b = [] by rintro rfl; simp at g4)]
    | refine AW_region_draw (id := 6) Γs17_ok mixed [] [2, 6] (by kernel_rfl) (by kernel_rfl) (by simp [-List.getD_eq_getElem?_getD, -List.drop_one, ↓splitB_true, ↓splitB_false, go_sem, (show (b.drop (turn a b i)).take (b.length - turn a b i) = b.drop (turn a b i) from List.take_of_length_le (by simp)), (show (((b.length : Int) - turn a b i).toNat) = b.length - turn a b i by omega), (show (turn a b i : Int) ≤ b.length by omega), (show turn a b i ≤ b.length by omega), (show min (turn a b i) b.length = turn a b i by omega), (show b.length - turn a b i + turn a b i ≤ 1048576 by omega), (show b.length ≤ 1048576 by omega)]) ?_; simp  [-List.getD_eq_getElem?_getD, -List.drop_one, ↓splitB_true, ↓splitB_false, go_sem, (show (b.drop (turn a b i)).take (b.length - turn a b i) = b.drop (turn a b i) from List.take_of_length_le (by simp)), (show (((b.length : Int) - turn a b i).toNat) = b.length - turn a b i by omega), (show (turn a b i : Int) ≤ b.length by omega), (show turn a b i ≤ b.length by omega), (show min (turn a b i) b.length = turn a b i by omega), (show b.length - turn a b i + turn a b i ≤ 1048576 by omega), (show b.length ≤ 1048576 by omega)]
    | refine AW_condA (c := .tmp 7) ?_; simp [-List.getD_eq_getElem?_getD, -List.drop_one, ↓splitB_true, ↓splitB_false, go_sem]; try first | (refine ⟨?_, ?_⟩ <;> change AW _ _ _ _ _ _) | (refine ⟨fun c7 => ?_, fun c7 => ?_⟩ <;> (try simp [B_iff, B_not] at c7))
    | refine AW_condA (c := .tmp 16) ?_; simp [-List.getD_eq_getElem?_getD, -List.drop_one, ↓splitB_true, ↓splitB_false, go_sem]; try first | (refine ⟨?_, ?_⟩ <;> change AW _ _ _ _ _ _) | (refine ⟨fun c16 => ?_, fun c16 => ?_⟩ <;> (try simp [B_iff, B_not] at c16))
    | (refine AW_block ?_)
    | (refine AW_exit ?_; simp [-List.getD_eq_getElem?_getD, -List.drop_one, ↓splitB_true, ↓splitB_false, go_sem])
    | (refine AW_skip ?_; simp [-List.getD_eq_getElem?_getD, -List.drop_one, ↓splitB_true, ↓splitB_false, go_sem])
    | (refine AW_ret ?_; simp [-List.getD_eq_getElem?_getD, -List.drop_one, ↓splitB_true, ↓splitB_false, go_sem, Try.results31])
    | (intro hx; change AW _ _ _ _ _ _)
    | (refine ⟨?_, ?_⟩ <;> change AW _ _ _ _ _ _)
    | (intro hx; refine ⟨fun hs => ?_, fun hs => ?_⟩)
    | (refine ⟨fun hs => ?_, fun hs => ?_⟩)
    | (refine ⟨?_, fun hs => ?_⟩; change AW _ _ _ _ _ _)
    | (refine ⟨fun hs => ?_, ?_⟩; rotate_left; change AW _ _ _ _ _ _; rotate_left)
    | (exfalso; omega)))
  all_goals (first
    | exact ⟨s1a, c7⟩
    | (intro h; exact absurd h s1a)
    | (intro _ h; omega)
    | (rw [if_pos (by rw [B_iff]; exact ⟨s1a, by omega⟩), List.take_of_length_le (by simp)])
    | skip)
noncomputable def implSuffixAt_pureC : Con := .pure fun
  | [.st [.list n_a c_a, .list n_b c_b], .int .i64 i] => ((Is cI n_a c_a) ∧ (Is cI n_b c_b) ∧ (i ≤ 9223372036854775807), if B (LasOk (de cI c_a) (de cI c_b) ∧ 0 ≤ i) = true then (if i < (de cI c_a).length then .tup [.st [fr 1 cI ((de cI c_a).drop i.toNat), fr 1 cI (de cI c_b)], .bool true] else .tup [.st [.nil, fr 1 cI ((de cI c_b).drop (turn (de cI c_a) (de cI c_b) i) ++ (de cI c_b).take (turn (de cI c_a) (de cI c_b) i))], .bool true]) else .tup [.st [.nil, .nil], .bool false])
  | _ => (False, .any)
attribute [go_sem] implSuffixAt_pureC
theorem implSuffixAt_pureC_ok : ConOk Try.prog 31 implSuffixAt_pureC := by
  refine ⟨callable Try.func31 (by decide) rfl, fun args h => ?_⟩
  revert h
  dsimp only
  split
  · intro h
    obtain ⟨⟨a, rfl, rfl⟩, ⟨b, rfl, rfl⟩, h4⟩ := h
    try simp only [de_cat] at *
    exact ⟨implSuffixAt_pure a b _ h4, by simp [go_sem]⟩
  · intro h
    exact h.elim
noncomputable def Γs18 : FuncId → Con := ext Γs17 31 implSuffixAt_pureC
attribute [go_sem] Γs18
theorem Γs18_ok : ∀ g, ConOk Try.prog g (Γs18 g) := ext_ok Γs17_ok implSuffixAt_pureC_ok
end Go.Proofs.Ytlbbhkpjjciaiaa.Vm

