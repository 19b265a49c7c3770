/-
  A list repeated: bits.Mul64, slices.Repeat. No conditions.
-/
import Derived.Test.YtlbbhkpjjciaiaaS6
namespace Go.Proofs.Ytlbbhkpjjciaiaa.Vm
open Go
set_option linter.unusedVariables false
set_option linter.unusedSimpArgs false
set_option maxRecDepth 200000

theorem wrap_u {x : Int} (h1 : 0 ≤ x) (h2 : x ≤ 18446744073709551615) : IntKind.u64.wrap x = x := by
  rw [IntKind.wrap_u64]; omega
theorem and_mask {x : Int} (h1 : 0 ≤ x) (h2 : x ≤ 4294967295) : bitsD .and .u64 x 4294967295 = x := by
  have k1 : (BitVec.ofInt 64 x).toNat = x.toNat := by
    rw [BitVec.toNat_ofInt]
    have : x % ((2 ^ 64 : Nat) : Int) = x := Int.emod_eq_of_lt h1 (by omega)
    rw [this]
  have k2 : BitVec.ofInt 64 4294967295 = BitVec.ofNat 64 4294967295 := by decide
  have k3 : (BitVec.ofInt 64 x &&& BitVec.ofInt 64 4294967295).toNat = x.toNat := by
    rw [BitVec.toNat_and, k1, k2]
    have : (BitVec.ofNat 64 4294967295).toNat = 2 ^ 32 - 1 := by decide
    rw [this, Nat.and_two_pow_sub_one_eq_mod, Nat.mod_eq_of_lt (by omega)]
  show IntKind.u64.wrap ((BitVec.ofInt 64 x &&& BitVec.ofInt 64 4294967295).toNat : Int) = x
  rw [k3, wrap_u (by omega) (by omega)]; omega
theorem shr_zero {x : Int} (h1 : 0 ≤ x) (h2 : x ≤ 4294967295) : x.fdiv 4294967296 = 0 := by
  rw [Int.fdiv_eq_ediv_of_nonneg _ (by omega)]; omega
theorem mul_le {x y : Int} (h1 : 0 ≤ x) (h2 : x ≤ 65535) (h3 : 0 ≤ y) (h4 : y ≤ 65535) : 0 ≤ x * y ∧ x * y ≤ 4294836225 :=
  ⟨Int.mul_nonneg h1 h3, by have := Int.mul_le_mul h2 h4 h3 (by omega); omega⟩

theorem mul64_pure (x : Int) (y : Int) (h1 : 0 ≤ x) (h2 : x ≤ 65535) (h3 : 0 ≤ y) (h4 : y ≤ 65535) : Pure Try.prog 98 [.int .u64 x, .int .u64 y] (.tup [.int .u64 0, .int .u64 (x * y)]) := by
  refine Pure.of_walk Try.func98 rfl (by simp [Try.f98]) (by simp [-List.drop_one, go_sem]) fun B hK => ?_
  obtain ⟨m1, m2⟩ := mul_le h1 h2 h3 h4
  all_goals (repeat' (first
    | refine AW_seq ?_
    | refine AW_region (id := 0) Γs23_ok [] (by kernel_rfl) ?_; simp  [-List.getD_eq_getElem?_getD, -List.drop_one, ↓splitB_true, ↓splitB_false, go_sem, and_mask h1 (show x ≤ 4294967295 by omega), and_mask h3 (show y ≤ 4294967295 by omega), shr_zero h1 (show x ≤ 4294967295 by omega), shr_zero h3 (show y ≤ 4294967295 by omega), shr_zero m1 (show x * y ≤ 4294967295 by omega), wrap_u m1 (show x * y ≤ 18446744073709551615 by omega), IntKind.bits, (show IntKind.u64.wrap 0 = 0 from rfl), (show bitsD .and .u64 0 4294967295 = 0 by decide)]
    | refine AW_region (id := 1) Γs23_ok [] (by kernel_rfl) ?_; simp  [-List.getD_eq_getElem?_getD, -List.drop_one, ↓splitB_true, ↓splitB_false, go_sem, and_mask h1 (show x ≤ 4294967295 by omega), and_mask h3 (show y ≤ 4294967295 by omega), shr_zero h1 (show x ≤ 4294967295 by omega), shr_zero h3 (show y ≤ 4294967295 by omega), shr_zero m1 (show x * y ≤ 4294967295 by omega), wrap_u m1 (show x * y ≤ 18446744073709551615 by omega), IntKind.bits, (show IntKind.u64.wrap 0 = 0 from rfl), (show bitsD .and .u64 0 4294967295 = 0 by decide)]
    | refine AW_region (id := 2) Γs23_ok [] (by kernel_rfl) ?_; simp  [-List.getD_eq_getElem?_getD, -List.drop_one, ↓splitB_true, ↓splitB_false, go_sem, and_mask h1 (show x ≤ 4294967295 by omega), and_mask h3 (show y ≤ 4294967295 by omega), shr_zero h1 (show x ≤ 4294967295 by omega), shr_zero h3 (show y ≤ 4294967295 by omega), shr_zero m1 (show x * y ≤ 4294967295 by omega), wrap_u m1 (show x * y ≤ 18446744073709551615 by omega), IntKind.bits, (show IntKind.u64.wrap 0 = 0 from rfl), (show bitsD .and .u64 0 4294967295 = 0 by decide)]
    | refine AW_region (id := 3) Γs23_ok [] (by kernel_rfl) ?_; simp  [-List.getD_eq_getElem?_getD, -List.drop_one, ↓splitB_true, ↓splitB_false, go_sem, and_mask h1 (show x ≤ 4294967295 by omega), and_mask h3 (show y ≤ 4294967295 by omega), shr_zero h1 (show x ≤ 4294967295 by omega), shr_zero h3 (show y ≤ 4294967295 by omega), shr_zero m1 (show x * y ≤ 4294967295 by omega), wrap_u m1 (show x * y ≤ 18446744073709551615 by omega), IntKind.bits, (show IntKind.u64.wrap 0 = 0 from rfl), (show bitsD .and .u64 0 4294967295 = 0 by decide)]
    | refine AW_region (id := 4) Γs23_ok [] (by kernel_rfl) ?_; simp  [-List.getD_eq_getElem?_getD, -List.drop_one, ↓splitB_true, ↓splitB_false, go_sem, and_mask h1 (show x ≤ 4294967295 by omega), and_mask h3 (show y ≤ 4294967295 by omega), shr_zero h1 (show x ≤ 4294967295 by omega), shr_zero h3 (show y ≤ 4294967295 by omega), shr_zero m1 (show x * y ≤ 4294967295 by omega), wrap_u m1 (show x * y ≤ 18446744073709551615 by omega), IntKind.bits, (show IntKind.u64.wrap 0 = 0 from rfl), (show bitsD .and .u64 0 4294967295 = 0 by decide)]
    | refine AW_region (id := 5) Γs23_ok [] (by kernel_rfl) ?_; simp  [-List.getD_eq_getElem?_getD, -List.drop_one, ↓splitB_true, ↓splitB_false, go_sem, and_mask h1 (show x ≤ 4294967295 by omega), and_mask h3 (show y ≤ 4294967295 by omega), shr_zero h1 (show x ≤ 4294967295 by omega), shr_zero h3 (show y ≤ 4294967295 by omega), shr_zero m1 (show x * y ≤ 4294967295 by omega), wrap_u m1 (show x * y ≤ 18446744073709551615 by omega), IntKind.bits, (show IntKind.u64.wrap 0 = 0 from rfl), (show bitsD .and .u64 0 4294967295 = 0 by decide)]
    | refine AW_region (id := 6) Γs23_ok [] (by kernel_rfl) ?_; simp  [-List.getD_eq_getElem?_getD, -List.drop_one, ↓splitB_true, ↓splitB_false, go_sem, and_mask h1 (show x ≤ 4294967295 by omega), and_mask h3 (show y ≤ 4294967295 by omega), shr_zero h1 (show x ≤ 4294967295 by omega), shr_zero h3 (show y ≤ 4294967295 by omega), shr_zero m1 (show x * y ≤ 4294967295 by omega), wrap_u m1 (show x * y ≤ 18446744073709551615 by omega), IntKind.bits, (show IntKind.u64.wrap 0 = 0 from rfl), (show bitsD .and .u64 0 4294967295 = 0 by decide)]
    | refine AW_region (id := 7) Γs23_ok [] (by kernel_rfl) ?_; simp  [-List.getD_eq_getElem?_getD, -List.drop_one, ↓splitB_true, ↓splitB_false, go_sem, and_mask h1 (show x ≤ 4294967295 by omega), and_mask h3 (show y ≤ 4294967295 by omega), shr_zero h1 (show x ≤ 4294967295 by omega), shr_zero h3 (show y ≤ 4294967295 by omega), shr_zero m1 (show x * y ≤ 4294967295 by omega), wrap_u m1 (show x * y ≤ 18446744073709551615 by omega), IntKind.bits, (show IntKind.u64.wrap 0 = 0 from rfl), (show bitsD .and .u64 0 4294967295 = 0 by decide)]
    | refine AW_region (id := 8) Γs23_ok [] (by kernel_rfl) ?_; simp  [-List.getD_eq_getElem?_getD, -List.drop_one, ↓splitB_true, ↓splitB_false, go_sem, and_mask h1 (show x ≤ 4294967295 by omega), and_mask h3 (show y ≤ 4294967295 by omega), shr_zero h1 (show x ≤ 4294967295 by omega), shr_zero h3 (show y ≤ 4294967295 by omega), shr_zero m1 (show x * y ≤ 4294967295 by omega), wrap_u m1 (show x * y ≤ 18446744073709551615 by omega), IntKind.bits, (show IntKind.u64.wrap 0 = 0 from rfl), (show bitsD .and .u64 0 4294967295 = 0 by decide)]
    | refine AW_region (id := 9) Γs23_ok [] (by kernel_rfl) ?_; simp  [-List.getD_eq_getElem?_getD, -List.drop_one, ↓splitB_true, ↓splitB_false, go_sem, and_mask h1 (show x ≤ 4294967295 by omega), and_mask h3 (show y ≤ 4294967295 by omega), shr_zero h1 (show x ≤ 4294967295 by omega), shr_zero h3 (show y ≤ 4294967295 by omega), shr_zero m1 (show x * y ≤ 4294967295 by omega), wrap_u m1 (show x * y ≤ 18446744073709551615 by omega), IntKind.bits, (show IntKind.u64.wrap 0 = 0 from rfl), (show bitsD .and .u64 0 4294967295 = 0 by decide)]
    | refine AW_region (id := 10) Γs23_ok [] (by kernel_rfl) ?_; simp  [-List.getD_eq_getElem?_getD, -List.drop_one, ↓splitB_true, ↓splitB_false, go_sem, and_mask h1 (show x ≤ 4294967295 by omega), and_mask h3 (show y ≤ 4294967295 by omega), shr_zero h1 (show x ≤ 4294967295 by omega), shr_zero h3 (show y ≤ 4294967295 by omega), shr_zero m1 (show x * y ≤ 4294967295 by omega), wrap_u m1 (show x * y ≤ 18446744073709551615 by omega), IntKind.bits, (show IntKind.u64.wrap 0 = 0 from rfl), (show bitsD .and .u64 0 4294967295 = 0 by decide)]
    | refine AW_region (id := 11) Γs23_ok [] (by kernel_rfl) ?_; simp  [-List.getD_eq_getElem?_getD, -List.drop_one, ↓splitB_true, ↓splitB_false, go_sem, and_mask h1 (show x ≤ 4294967295 by omega), and_mask h3 (show y ≤ 4294967295 by omega), shr_zero h1 (show x ≤ 4294967295 by omega), shr_zero h3 (show y ≤ 4294967295 by omega), shr_zero m1 (show x * y ≤ 4294967295 by omega), wrap_u m1 (show x * y ≤ 18446744073709551615 by omega), IntKind.bits, (show IntKind.u64.wrap 0 = 0 from rfl), (show bitsD .and .u64 0 4294967295 = 0 by decide)]
    | (refine AW_block ?_)
    | (refine AW_exit ?_; simp [-List.getD_eq_getElem?_getD, -List.drop_one, ↓splitB_true, ↓splitB_false, go_sem])
    | (refine AW_skip ?_; simp [-List.getD_eq_getElem?_getD, -List.drop_one, ↓splitB_true, ↓splitB_false, go_sem])
    | (refine AW_ret ?_; simp [-List.getD_eq_getElem?_getD, -List.drop_one, ↓splitB_true, ↓splitB_false, go_sem, Try.results98, and_mask h1 (show x ≤ 4294967295 by omega), and_mask h3 (show y ≤ 4294967295 by omega), shr_zero h1 (show x ≤ 4294967295 by omega), shr_zero h3 (show y ≤ 4294967295 by omega), shr_zero m1 (show x * y ≤ 4294967295 by omega), wrap_u m1 (show x * y ≤ 18446744073709551615 by omega), IntKind.bits, (show IntKind.u64.wrap 0 = 0 from rfl), (show bitsD .and .u64 0 4294967295 = 0 by decide)])
    | (intro hx; change AW _ _ _ _ _ _)
    | (refine ⟨?_, ?_⟩ <;> change AW _ _ _ _ _ _)
    | (intro hx; refine ⟨fun hs => ?_, fun hs => ?_⟩)
    | (refine ⟨fun hs => ?_, fun hs => ?_⟩)
    | (refine ⟨?_, fun hs => ?_⟩; change AW _ _ _ _ _ _)
    | (refine ⟨fun hs => ?_, ?_⟩; rotate_left; change AW _ _ _ _ _ _; rotate_left)))
noncomputable def mul64_pureC : Con := .pure fun
  | [.int .u64 x, .int .u64 y] => ((0 ≤ x) ∧ (x ≤ 65535) ∧ (0 ≤ y) ∧ (y ≤ 65535), .tup [.int .u64 0, .int .u64 (x * y)])
  | _ => (False, .any)
attribute [go_sem] mul64_pureC
theorem mul64_pureC_ok : ConOk Try.prog 98 mul64_pureC := by
  refine ⟨callable Try.func98 (by decide) rfl, fun args h => ?_⟩
  revert h
  dsimp only
  split
  · intro h
    obtain ⟨h1, h2, h3, h4⟩ := h
    skip
    exact ⟨mul64_pure _ _ h1 h2 h3 h4, by simp [go_sem]⟩
  · intro h
    exact h.elim
noncomputable def Γs24 : FuncId → Con := ext Γs23 98 mul64_pureC
attribute [go_sem] Γs24
theorem Γs24_ok : ∀ g, ConOk Try.prog g (Γs24 g) := ext_ok Γs23_ok mul64_pureC_ok

theorem mul_pure (x : Int) (y : Int) (h1 : 0 ≤ x) (h2 : x ≤ 65535) (h3 : 0 ≤ y) (h4 : y ≤ 65535) : Pure Try.prog 93 [.int .u64 x, .int .u64 y] (.tup [.int .u64 0, .int .u64 (x * y)]) := by
  refine Pure.of_walk Try.func93 rfl (by simp [Try.f93]) (by simp [-List.drop_one, go_sem]) fun B hK => ?_
  (repeat' (first
    | refine AW_seq ?_
    | refine AW_region (id := 0) Γs24_ok [] (by kernel_rfl) ?_; simp  [-List.getD_eq_getElem?_getD, -List.drop_one, ↓splitB_true, ↓splitB_false, go_sem, h1, h2, h3, h4]
    | refine AW_region (id := 1) Γs24_ok [] (by kernel_rfl) ?_; simp  [-List.getD_eq_getElem?_getD, -List.drop_one, ↓splitB_true, ↓splitB_false, go_sem, h1, h2, h3, h4]
    | refine AW_region (id := 2) Γs24_ok [] (by kernel_rfl) ?_; simp  [-List.getD_eq_getElem?_getD, -List.drop_one, ↓splitB_true, ↓splitB_false, go_sem, h1, h2, h3, h4]
    | refine AW_region (id := 3) Γs24_ok [] (by kernel_rfl) ?_; simp  [-List.getD_eq_getElem?_getD, -List.drop_one, ↓splitB_true, ↓splitB_false, go_sem, h1, h2, h3, h4]
    | refine AW_region (id := 4) Γs24_ok [] (by kernel_rfl) ?_; simp  [-List.getD_eq_getElem?_getD, -List.drop_one, ↓splitB_true, ↓splitB_false, go_sem, h1, h2, h3, h4]
    | (refine AW_block ?_)
    | (refine AW_exit ?_; simp [-List.getD_eq_getElem?_getD, -List.drop_one, ↓splitB_true, ↓splitB_false, go_sem])
    | (refine AW_skip ?_; simp [-List.getD_eq_getElem?_getD, -List.drop_one, ↓splitB_true, ↓splitB_false, go_sem])
    | (refine AW_ret ?_; simp [-List.getD_eq_getElem?_getD, -List.drop_one, ↓splitB_true, ↓splitB_false, go_sem, Try.results93, h1, h2, h3, h4])
    | (intro hx; change AW _ _ _ _ _ _)
    | (refine ⟨?_, ?_⟩ <;> change AW _ _ _ _ _ _)
    | (intro hx; refine ⟨fun hs => ?_, fun hs => ?_⟩)
    | (refine ⟨fun hs => ?_, fun hs => ?_⟩)
    | (refine ⟨?_, fun hs => ?_⟩; change AW _ _ _ _ _ _)
    | (refine ⟨fun hs => ?_, ?_⟩; rotate_left; change AW _ _ _ _ _ _; rotate_left)
    | (refine AW_condA (c := .const (.bool false)) ?_; simp [go_sem])
    | (exfalso; exact Bool.noConfusion hs)))
noncomputable def mul_pureC : Con := .pure fun
  | [.int .u64 x, .int .u64 y] => ((0 ≤ x) ∧ (x ≤ 65535) ∧ (0 ≤ y) ∧ (y ≤ 65535), .tup [.int .u64 0, .int .u64 (x * y)])
  | _ => (False, .any)
attribute [go_sem] mul_pureC
theorem mul_pureC_ok : ConOk Try.prog 93 mul_pureC := by
  refine ⟨callable Try.func93 (by decide) rfl, fun args h => ?_⟩
  revert h
  dsimp only
  split
  · intro h
    obtain ⟨h1, h2, h3, h4⟩ := h
    skip
    exact ⟨mul_pure _ _ h1 h2 h3 h4, by simp [go_sem]⟩
  · intro h
    exact h.elim
noncomputable def Γs25 : FuncId → Con := ext Γs24 93 mul_pureC
attribute [go_sem] Γs25
theorem Γs25_ok : ∀ g, ConOk Try.prog g (Γs25 g) := ext_ok Γs24_ok mul_pureC_ok

theorem rep_take (xs : List Int) {m : Nat} (h : 1 ≤ m) : (rep xs m).take xs.length = xs := by
  obtain ⟨k, rfl⟩ : ∃ k, m = k + 1 := ⟨m - 1, by omega⟩
  rw [rep_succ, List.take_left']; rfl
theorem rep_shift {xs : List Int} {m k n : Nat} (hk : k % xs.length = 0) (h : k + n ≤ (rep xs m).length) : ((rep xs m).drop k).take n = (rep xs m).take n := by
  rw [rep_len] at h
  apply List.ext_getElem
  · simp [rep_len]; omega
  · intro i h1 h2
    have h3 := h2
    simp only [List.length_take, rep_len] at h3
    rw [← nth_lt h1, ← nth_lt h2, nth_take (by omega), nth_take (by omega), nth_drop, nth_rep (by omega), nth_rep (by omega)]
    rw [Nat.add_mod, hk, Nat.zero_add, Nat.mod_mod]
theorem fill_copy {R : List Int} {k n : Nat} (h : k + n ≤ R.length) (junk : List D) : stSeg (fillC cI [.int .i64 0] 1 R k junk) k (cat cI ((R.drop k).take n)) = fillC cI [.int .i64 0] 1 R (k + n) junk := by
  unfold fillC stSeg
  have e : (cat cI (R.take k)).length = k := by rw [cat_length]; simp; omega
  have l : (cat cI ((R.drop k).take n)).length = n := by rw [cat_length]; simp; omega
  have q := setSeg_app (cat cI (R.take k)) (cat cI ((R.drop k).take n)) (makeD [.int .i64 0] ((R.length - k) * 1) ++ junk) (by rw [l, List.length_append, makeD_length]; omega)
  rw [e, l] at q
  rw [q, ← cat_append, ← List.take_add, makeD_one, makeD_one]
  congr 1
  rw [List.drop_append_of_le_length (by simp; omega), List.drop_replicate]
  congr 2
  omega
theorem fill_take {R : List Int} {k : Nat} (h : k ≤ R.length) (junk : List D) : (fillC cI [.int .i64 0] 1 R k junk).take k = cat cI (R.take k) := by
  unfold fillC
  rw [List.take_append_of_le_length (by rw [cat_length]; simp; omega), List.take_of_length_le (by rw [cat_length]; simp; omega)]
theorem fill_none (R : List Int) (junk : List D) : makeD [.int .i64 0] R.length ++ junk = fillC cI [.int .i64 0] 1 R 0 junk := by simp [fillC, cat]
theorem fill_first {xs : List Int} {m : Nat} (h : 1 ≤ m) (hl : xs.length ≤ (rep xs m).length) (junk : List D) : stSeg (fillC cI [.int .i64 0] 1 (rep xs m) 0 junk) 0 (cat cI xs) = fillC cI [.int .i64 0] 1 (rep xs m) xs.length junk := by
  have := fill_copy (R := rep xs m) (k := 0) (n := xs.length) (by omega) junk
  rwa [List.drop_zero, rep_take xs h, Nat.zero_add] at this
theorem fill_next {xs : List Int} {m k n : Nat} (hk : k % xs.length = 0) (h : k + n ≤ (rep xs m).length) (junk : List D) : stSeg (fillC cI [.int .i64 0] 1 (rep xs m) k junk) k (cat cI ((rep xs m).take n)) = fillC cI [.int .i64 0] 1 (rep xs m) (k + n) junk := by
  rw [← rep_shift hk h]
  exact fill_copy h junk

theorem Repeat_pure (xs : List Int) (n : Int) (h0 : 0 < xs.length) (h1 : 1 ≤ n) (h2 : xs.length ≤ 80) (h3 : n ≤ 80) : Pure Try.prog 86 [li cI xs, .int .i64 n] (fr 1 cI (rep xs n.toNat)) := by
  refine Pure.of_walk Try.func86 rfl (by simp [Try.f86]) (by simp [-List.drop_one, go_sem]) fun B hK => ?_
  (obtain ⟨m, rfl⟩ : ∃ m : Nat, n = m := ⟨n.toNat, by omega⟩); (simp only [Int.toNat_natCast] at *); have hL := rep_len xs m; have hM := mul_le (x := (xs.length : Int)) (y := (m : Int)) (by omega) (by omega) (by omega) (by omega); have hl0 : xs.length ≤ m * xs.length := Nat.le_mul_of_pos_left _ (by omega); have hc : (xs.length : Int) * (m : Int) = ((rep xs m).length : Nat) := (by rw [hL, Nat.mul_comm]; simp); have hLm : (rep xs m).length ≤ 4294836225 := (by omega); have hlL : xs.length ≤ (rep xs m).length := (by omega)
  all_goals (repeat' (first
    | refine AW_seq ?_
    | refine AW_region (id := 0) Γs25_ok [] (by kernel_rfl) ?_; simp  [-List.getD_eq_getElem?_getD, -List.drop_one, ↓splitB_true, ↓splitB_false, go_sem]
    | refine AW_region (id := 1) Γs25_ok [] (by kernel_rfl) ?_; simp  [-List.getD_eq_getElem?_getD, -List.drop_one, ↓splitB_true, ↓splitB_false, go_sem, h1]
    | refine AW_region (id := 2) Γs25_ok [] (by kernel_rfl) ?_; simp  [-List.getD_eq_getElem?_getD, -List.drop_one, ↓splitB_true, ↓splitB_false, go_sem]
    | refine AW_region (id := 3) Γs25_ok [] (by kernel_rfl) ?_; simp  [-List.getD_eq_getElem?_getD, -List.drop_one, ↓splitB_true, ↓splitB_false, go_sem, wrap_u (x := (xs.length : Int)) (by omega) (by omega), wrap_u (x := (m : Int)) (by omega) (by omega), (show (xs.length : Int) ≤ 65535 by omega), (show (m : Int) ≤ 65535 by omega), hc, (show xs.length ≤ 65535 by omega), (show m ≤ 65535 by omega)]
    | refine AW_region (id := 4) Γs25_ok [23] (by kernel_rfl) ?_; simp  [-List.getD_eq_getElem?_getD, -List.drop_one, ↓splitB_true, ↓splitB_false, go_sem, hc, (show ((rep xs m).length : Int) ≤ 9223372036854775807 by omega), (show (rep xs m).length ≤ 9223372036854775807 by omega)]; try (refine ⟨fun s4a => ?_, fun s4a => ?_⟩ <;> (try simp [B_iff, B_not] at s4a) <;> try (refine ⟨fun s4b => ?_, fun s4b => ?_⟩ <;> (try simp [B_iff, B_not] at s4b)))
    | refine AW_region (id := 5) Γs25_ok [] (by kernel_rfl) ?_; simp  [-List.getD_eq_getElem?_getD, -List.drop_one, ↓splitB_true, ↓splitB_false, go_sem]
    | refine AW_region (id := 6) Γs25_ok [] (by kernel_rfl) ?_; simp  [-List.getD_eq_getElem?_getD, -List.drop_one, ↓splitB_true, ↓splitB_false, go_sem, wrap_in (x := ((rep xs m).length : Int)) (by omega) (by omega), (show ((rep xs m).length : Int) ≤ 9223372036854775807 by omega), (show (rep xs m).length * 8 ≤ 281474976710656 by omega), (show 8 * ((rep xs m).length : Int) ≤ 281474976710656 by omega)]; try ((refine AW_mat 7 rfl fun b cp j _ hcp hj => ?_))
    | refine AW_region (id := 7) Γs25_ok [] (by kernel_rfl) ?_; simp  [-List.getD_eq_getElem?_getD, -List.drop_one, ↓splitB_true, ↓splitB_false, go_sem, fill_none, fill_first (xs := xs) (m := m) (by omega) hlL, makeD_length, Nat.min_eq_left hlL, fill_len (f := cI) (sz := 1) [.int .i64 0] (xs := rep xs m) (k := 0) (Nat.zero_le _), (show xs.length ≤ (rep xs m).length + j by omega), (show 0 ≤ (rep xs m).length by omega)]
    | refine AW_region (id := 8) Γs25_ok [] (by kernel_rfl) ?_; simp  [-List.getD_eq_getElem?_getD, -List.drop_one, ↓splitB_true, ↓splitB_false, go_sem]
    | (have hz : k % xs.length = 0 := hk2.resolve_left (by omega)); refine AW_region_draw (id := 9) Γs25_ok mixed [] [8, 7] (by kernel_rfl) (by kernel_rfl) (by simp [-List.getD_eq_getElem?_getD, -List.drop_one, ↓splitB_true, ↓splitB_false, go_sem, fill_take hk1, (show ((rep xs m).take k).take (min k ((rep xs m).length - k)) = (rep xs m).take (min k ((rep xs m).length - k)) by rw [List.take_take]; congr 1; omega), fill_next hz (show k + min k ((rep xs m).length - k) ≤ (rep xs m).length by omega), fill_len (f := cI) (sz := 1) [.int .i64 0] (xs := rep xs m) (k := k) hk1, (show k + min k ((rep xs m).length - k) ≤ (rep xs m).length + j by omega), (show (((rep xs m).length : Int) - k).toNat = (rep xs m).length - k by omega), hk1, (show k ≤ cp by omega), (show (k : Int) ≤ (rep xs m).length by omega), (show (k : Int) ≤ cp by omega), wrap_in (x := (k : Int) + (min k ((rep xs m).length - k) : Nat)) (by omega) (by omega), hcp]) ?_; simp  [-List.getD_eq_getElem?_getD, -List.drop_one, ↓splitB_true, ↓splitB_false, go_sem, fill_take hk1, (show ((rep xs m).take k).take (min k ((rep xs m).length - k)) = (rep xs m).take (min k ((rep xs m).length - k)) by rw [List.take_take]; congr 1; omega), fill_next hz (show k + min k ((rep xs m).length - k) ≤ (rep xs m).length by omega), fill_len (f := cI) (sz := 1) [.int .i64 0] (xs := rep xs m) (k := k) hk1, (show k + min k ((rep xs m).length - k) ≤ (rep xs m).length + j by omega), (show (((rep xs m).length : Int) - k).toNat = (rep xs m).length - k by omega), hk1, (show k ≤ cp by omega), (show (k : Int) ≤ (rep xs m).length by omega), (show (k : Int) ≤ cp by omega), wrap_in (x := (k : Int) + (min k ((rep xs m).length - k) : Nat)) (by omega) (by omega), hcp]
    | ((obtain rfl : k = (rep xs m).length := by omega); refine AW_unmat 7 (b := b) (all := cat cI (rep xs m) ++ List.replicate j .any) rfl (by simp [go_sem, fill_all]) (by omega) (by simp [cat_length]) (by simp [cat_length]; omega) ?_); refine AW_region (id := 10) Γs25_ok [] (by kernel_rfl) ?_; simp  [-List.getD_eq_getElem?_getD, -List.drop_one, ↓splitB_true, ↓splitB_false, go_sem]
    | refine AW_condA (c := .tmp 10) ?_; simp [-List.getD_eq_getElem?_getD, -List.drop_one, ↓splitB_true, ↓splitB_false, go_sem]; try first | (refine ⟨?_, ?_⟩ <;> change AW _ _ _ _ _ _) | (refine ⟨fun c10 => ?_, fun c10 => ?_⟩ <;> (try simp [B_iff, B_not] at c10))
    | refine AW_condA (c := .tmp 26) ?_; simp [-List.getD_eq_getElem?_getD, -List.drop_one, ↓splitB_true, ↓splitB_false, go_sem]; try first | (refine ⟨?_, ?_⟩ <;> change AW _ _ _ _ _ _) | (refine ⟨fun c26 => ?_, fun c26 => ?_⟩ <;> (try simp [B_iff, B_not] at c26))
    | refine AW_condA (c := .tmp 37) ?_; simp [-List.getD_eq_getElem?_getD, -List.drop_one, ↓splitB_true, ↓splitB_false, go_sem]; try first | (refine ⟨?_, ?_⟩ <;> change AW _ _ _ _ _ _) | (refine ⟨fun c37 => ?_, fun c37 => ?_⟩ <;> (try simp [B_iff, B_not] at c37))
    | (refine AW_block (id := 0) (AW_loop (ι := Nat) (fun k : Nat => ⟨(upd (upd (fun _ => .any) 7 (.sl b 1 0 (rep xs m).length cp)) 8 (.int .i64 k)), upd (fun _ => none) b (some (fillC cI [.int .i64 0] 1 (rep xs m) k (List.replicate j .any)))⟩) (fun k => 0 < k ∧ k ≤ (rep xs m).length ∧ (k = (rep xs m).length ∨ k % xs.length = 0)) (fun k => (rep xs m).length - k) (xs.length) ?_ ?_ ?_); exact ⟨h0, hlL, .inr (Nat.mod_self _)⟩; ((repeat' (first | exact sub_noneH (by assumption) | exact sub_none | refine sub_upd ?_ ?_ | refine sub_noneE ?_)) <;> simp [-List.getD_eq_getElem?_getD, -List.drop_one, ↓splitB_true, ↓splitB_false, go_sem]); rintro k ⟨hk0, hk1, hk2⟩)
    | (refine ⟨k + min k ((rep xs m).length - k), ⟨by omega, by omega, by rcases Nat.lt_or_ge k ((rep xs m).length - k) with h | h; right; rw [Nat.min_eq_left (by omega), Nat.add_mod, hk2.resolve_left (by omega)]; simp; left; omega⟩, by first | omega | (simp; done) | (simp; omega), ?_⟩; ((repeat' (first | exact sub_noneH (by assumption) | exact sub_none | refine sub_upd ?_ ?_ | refine sub_noneE ?_)) <;> simp [-List.getD_eq_getElem?_getD, -List.drop_one, ↓splitB_true, ↓splitB_false, go_sem]))
    | (refine AW_block ?_)
    | (refine AW_exit ?_; simp [-List.getD_eq_getElem?_getD, -List.drop_one, ↓splitB_true, ↓splitB_false, go_sem])
    | (refine AW_skip ?_; simp [-List.getD_eq_getElem?_getD, -List.drop_one, ↓splitB_true, ↓splitB_false, go_sem])
    | (refine AW_ret ?_; simp [-List.getD_eq_getElem?_getD, -List.drop_one, ↓splitB_true, ↓splitB_false, go_sem, Try.results86])
    | (intro hx; change AW _ _ _ _ _ _)
    | (refine ⟨?_, ?_⟩ <;> change AW _ _ _ _ _ _)
    | (intro hx; refine ⟨fun hs => ?_, fun hs => ?_⟩)
    | (refine ⟨fun hs => ?_, fun hs => ?_⟩)
    | (refine ⟨?_, fun hs => ?_⟩; change AW _ _ _ _ _ _)
    | (refine ⟨fun hs => ?_, ?_⟩; rotate_left; change AW _ _ _ _ _ _; rotate_left)
    | (exfalso; omega)))
noncomputable def Repeat_pureC : Con := .pure fun
  | [.list n_xs c_xs, .int .i64 n] => ((Is cI n_xs c_xs) ∧ (0 < (de cI c_xs).length) ∧ (1 ≤ n) ∧ ((de cI c_xs).length ≤ 80) ∧ (n ≤ 80), fr 1 cI (rep (de cI c_xs) n.toNat))
  | _ => (False, .any)
attribute [go_sem] Repeat_pureC
theorem Repeat_pureC_ok : ConOk Try.prog 86 Repeat_pureC := by
  refine ⟨callable Try.func86 (by decide) rfl, fun args h => ?_⟩
  revert h
  dsimp only
  split
  · intro h
    obtain ⟨⟨xs, rfl, rfl⟩, h0, h1, h2, h3⟩ := h
    try simp only [de_cat] at *
    exact ⟨Repeat_pure xs _ h0 h1 h2 h3, by simp [go_sem]⟩
  · intro h
    exact h.elim
noncomputable def Γs26 : FuncId → Con := ext Γs25 86 Repeat_pureC
attribute [go_sem] Γs26
theorem Γs26_ok : ∀ g, ConOk Try.prog g (Γs26 g) := ext_ok Γs25_ok Repeat_pureC_ok
end Go.Proofs.Ytlbbhkpjjciaiaa.Vm

