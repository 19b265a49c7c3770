/-
  Texts read: digits as numbers, a text cut at a byte. No conditions.
-/
import Derived.Test.YtlbbhkpjjciaiaaP1
namespace Go.Proofs.Ytlbbhkpjjciaiaa.Vm
open Go
set_option linter.unusedVariables false
set_option linter.unusedSimpArgs false
set_option maxRecDepth 200000

/-- The bytes as numbers, '0' as 0. -/
def nums (s : List UInt8) : List Int := s.map fun b => (b.toNat : Int) - 48
theorem nums_len (s : List UInt8) : (nums s).length = s.length := by simp [nums]
theorem nums_succ {s : List UInt8} {i : Nat} (h : i < s.length) : cat cI (nums (s.take i)) ++ [.int .i64 ((s.getD i 0).toNat - 48)] = cat cI (nums (s.take (i + 1))) := by
  have e : nums (s.take (i + 1)) = nums (s.take i) ++ [((s.getD i 0).toNat : Int) - 48] := by
    rw [List.take_succ_eq_append_getElem h, List.getD_eq_getElem?_getD, List.getElem?_eq_getElem h]
    simp only [nums, List.map_append, List.map_cons, List.map_nil, Option.getD_some]
  rw [e, cat_append, cat_one]; rfl
theorem l3Numbers_pure (s : List UInt8) (hl : s.length ≤ 1048576) : Pure Try.prog 72 [.str s] (fr 1 cI (nums s)) := by
  refine Pure.of_walk Try.func72 rfl (by simp [Try.f72]) (by simp [-List.drop_one, go_sem]) fun B hK => ?_
  (repeat' (first
    | refine AW_seq ?_
    | refine AW_region (id := 0) Γp9_ok [] (by kernel_rfl) ?_; simp  [-List.getD_eq_getElem?_getD, -List.drop_one, ↓splitB_true, ↓splitB_false, go_sem]
    | refine AW_region (id := 1) Γp9_ok [] (by kernel_rfl) ?_; simp  [-List.getD_eq_getElem?_getD, -List.drop_one, ↓splitB_true, ↓splitB_false, go_sem]
    | refine AW_region (id := 2) Γp9_ok [] (by kernel_rfl) ?_; simp  [-List.getD_eq_getElem?_getD, -List.drop_one, ↓splitB_true, ↓splitB_false, go_sem]
    | refine AW_region (id := 3) Γp9_ok [] (by kernel_rfl) ?_; simp  [-List.getD_eq_getElem?_getD, -List.drop_one, ↓splitB_true, ↓splitB_false, go_sem]
    | (have hb := byte_lt2 (s.getD i 0)); refine AW_region (id := 5) Γp9_ok [] (by kernel_rfl) ?_; simp  [-List.getD_eq_getElem?_getD, -List.drop_one, ↓splitB_true, ↓splitB_false, go_sem, c9, wrap_in (x := ((s.getD i 0).toNat : Int)) (by omega) (by omega), wrap_in (x := ((s.getD i 0).toNat : Int) - 48) (by omega) (by omega), nums_succ c9, (show i + 1 ≤ 9223372036854775807 by omega), (show 2 * (i + 1) * 8 ≤ 281474976710656 by omega)]
    | refine AW_region (id := 4) Γp9_ok [] (by kernel_rfl) ?_; simp  [-List.getD_eq_getElem?_getD, -List.drop_one, ↓splitB_true, ↓splitB_false, go_sem, wrapS (k := i) (by omega)]
    | ((obtain rfl : i = s.length := by omega)); refine AW_region (id := 6) Γp9_ok [] (by kernel_rfl) ?_; simp  [-List.getD_eq_getElem?_getD, -List.drop_one, ↓splitB_true, ↓splitB_false, go_sem, nums_len]
    | refine AW_condA (c := .tmp 9) ?_; simp [-List.getD_eq_getElem?_getD, -List.drop_one, ↓splitB_true, ↓splitB_false, go_sem]; try first | (refine ⟨?_, ?_⟩ <;> change AW _ _ _ _ _ _) | (refine ⟨fun c9 => ?_, fun c9 => ?_⟩ <;> (try simp [B_iff, B_not] at c9))
    | (refine AW_block (id := 0) (AW_loop (ι := Nat) (fun i : Nat => ⟨(upd (upd (upd (fun _ => .any) 0 (.str s)) 3 (.fr 1 i (cat cI (nums (s.take i))))) 4 (.int .i64 i)), fun _ => none⟩) (fun i => i ≤ s.length) (fun i => s.length - i) (0) ?_ ?_ ?_); exact Nat.zero_le _; ((repeat' (first | exact sub_noneH (by assumption) | exact sub_none | refine sub_upd ?_ ?_ | refine sub_noneE ?_)) <;> simp [-List.getD_eq_getElem?_getD, -List.drop_one, ↓splitB_true, ↓splitB_false, go_sem, nums]); rintro i hi)
    | (refine ⟨i + 1, by omega, by first | omega | (simp; done) | (simp; omega), ?_⟩; ((repeat' (first | exact sub_noneH (by assumption) | exact sub_none | refine sub_upd ?_ ?_ | refine sub_noneE ?_)) <;> simp [-List.getD_eq_getElem?_getD, -List.drop_one, ↓splitB_true, ↓splitB_false, go_sem, nums]))
    | (refine AW_block ?_)
    | (refine AW_exit ?_; simp [-List.getD_eq_getElem?_getD, -List.drop_one, ↓splitB_true, ↓splitB_false, go_sem])
    | (refine AW_skip ?_; simp [-List.getD_eq_getElem?_getD, -List.drop_one, ↓splitB_true, ↓splitB_false, go_sem])
    | (refine AW_ret ?_; simp [-List.getD_eq_getElem?_getD, -List.drop_one, ↓splitB_true, ↓splitB_false, go_sem, Try.results72])
    | (intro hx; change AW _ _ _ _ _ _)
    | (refine ⟨?_, ?_⟩ <;> change AW _ _ _ _ _ _)
    | (intro hx; refine ⟨fun hs => ?_, fun hs => ?_⟩)
    | (refine ⟨fun hs => ?_, fun hs => ?_⟩)
    | (refine ⟨?_, fun hs => ?_⟩; change AW _ _ _ _ _ _)
    | (refine ⟨fun hs => ?_, ?_⟩; rotate_left; change AW _ _ _ _ _ _; rotate_left)))
noncomputable def l3Numbers_pureC : Con := .pure fun
  | [.str s] => ((s.length ≤ 1048576), fr 1 cI (nums s))
  | _ => (False, .any)
attribute [go_sem] l3Numbers_pureC
theorem l3Numbers_pureC_ok : ConOk Try.prog 72 l3Numbers_pureC := by
  refine ⟨callable Try.func72 (by decide) rfl, fun args h => ?_⟩
  revert h
  dsimp only
  split
  · intro h
    have hl := h
    skip
    exact ⟨l3Numbers_pure _ hl, by simp [go_sem]⟩
  · intro h
    exact h.elim
noncomputable def Γp10 : FuncId → Con := ext Γp9 72 l3Numbers_pureC
attribute [go_sem] Γp10
theorem Γp10_ok : ∀ g, ConOk Try.prog g (Γp10 g) := ext_ok Γp9_ok l3Numbers_pureC_ok

/-- The bytes as digits, -1 where there is none. -/
def digN (s : List UInt8) : List Int := s.map smallB
theorem digN_len (s : List UInt8) : (digN s).length = s.length := by simp [digN]
theorem nth_digN {s : List UInt8} {i : Nat} (h : i < s.length) : nth (digN s) i = smallB (s.getD i 0) := by
  rw [nth_lt (by rw [digN_len]; exact h), List.getD_eq_getElem?_getD, List.getElem?_eq_getElem h]; simp [digN]
theorem take_one {s : List UInt8} {i : Nat} (h : i < s.length) : (s.drop i).take 1 = [s.getD i 0] := by
  rw [List.drop_eq_getElem_cons h, List.getD_eq_getElem?_getD, List.getElem?_eq_getElem h]; rfl
theorem readDigits_pure (s : List UInt8) (hl : s.length ≤ 1048576) : Pure Try.prog 74 [.str s] (fr 1 cI (digN s)) := by
  refine Pure.of_walk Try.func74 rfl (by simp [Try.f74]) (by simp [-List.drop_one, go_sem]) fun B hK => ?_
  have hd := digN_len s
  all_goals (repeat' (first
    | refine AW_seq ?_
    | refine AW_region (id := 0) Γp10_ok [] (by kernel_rfl) ?_; simp  [-List.getD_eq_getElem?_getD, -List.drop_one, ↓splitB_true, ↓splitB_false, go_sem]
    | refine AW_region (id := 1) Γp10_ok [] (by kernel_rfl) ?_; simp  [-List.getD_eq_getElem?_getD, -List.drop_one, ↓splitB_true, ↓splitB_false, go_sem, (by omega : 8 * (s.length : Int) ≤ 281474976710656), (by omega : (s.length : Int) ≤ 9223372036854775807)]; try ((refine AW_mat 3 rfl fun b cp j _ hcp hj => ?_))
    | refine AW_region (id := 2) Γp10_ok [] (by kernel_rfl) ?_; simp  [-List.getD_eq_getElem?_getD, -List.drop_one, ↓splitB_true, ↓splitB_false, go_sem, hd]
    | refine AW_region (id := 3) Γp10_ok [] (by kernel_rfl) ?_; simp  [-List.getD_eq_getElem?_getD, -List.drop_one, ↓splitB_true, ↓splitB_false, go_sem]
    | refine AW_region (id := 4) Γp10_ok [] (by kernel_rfl) ?_; simp  [-List.getD_eq_getElem?_getD, -List.drop_one, ↓splitB_true, ↓splitB_false, go_sem]
    | refine AW_region (id := 5) Γp10_ok [] (by kernel_rfl) ?_; simp  [-List.getD_eq_getElem?_getD, -List.drop_one, ↓splitB_true, ↓splitB_false, go_sem, c11, take_one c11, wrap_in (x := (k : Int) + 1) (by omega) (by omega), (show ((k : Int) + 1 - k).toNat = 1 by omega), (show (k : Int) + 1 ≤ s.length by omega), (show k + 1 ≤ s.length by omega), (show (k : Int) ≤ (k : Int) + 1 by omega), nth_digN c11, fill_len (f := cI) (sz := 1) [.int .i64 0] (xs := digN s) (k := k) (by omega), hd, (show k + 1 ≤ s.length + j by omega), (show stSeg (fillC cI [.int .i64 0] 1 (digN s) k (List.replicate j D.any)) k [.int .i64 (smallB (s.getD k 0))] = fillC cI [.int .i64 0] 1 (digN s) (k + 1) (List.replicate j D.any) by rw [← nth_digN c11]; exact fill_cI (by omega))]
    | refine AW_region (id := 6) Γp10_ok [] (by kernel_rfl) ?_; simp  [-List.getD_eq_getElem?_getD, -List.drop_one, ↓splitB_true, ↓splitB_false, go_sem, wrapS (k := k) (by omega)]
    | ((obtain rfl : k = s.length := by omega); refine AW_unmat 3 (b := b) (all := cat cI (digN s) ++ List.replicate j .any) rfl (by have := fill_all (f := cI) (sz := 1) (z := [.int .i64 0]) (digN s) (List.replicate j D.any); rw [hd] at this; simp [go_sem, this]) (by omega) (by simp [cat_length]; omega) (by simp [cat_length]; omega) ?_); refine AW_region (id := 7) Γp10_ok [] (by kernel_rfl) ?_; simp  [-List.getD_eq_getElem?_getD, -List.drop_one, ↓splitB_true, ↓splitB_false, go_sem, hd, (show (cat cI (digN s) ++ List.replicate j D.any).take s.length = cat cI (digN s) from cat_take_app1c _ _ hd.symm)]
    | refine AW_condA (c := .tmp 11) ?_; simp [-List.getD_eq_getElem?_getD, -List.drop_one, ↓splitB_true, ↓splitB_false, go_sem]; try first | (refine ⟨?_, ?_⟩ <;> change AW _ _ _ _ _ _) | (refine ⟨fun c11 => ?_, fun c11 => ?_⟩ <;> (try simp [B_iff, B_not] at c11))
    | (refine AW_block (id := 0) (AW_loop (ι := Nat) (fun k : Nat => ⟨(upd (upd (upd (upd (fun _ => .any) 0 (.str s)) 3 (.sl b 1 0 s.length cp)) 9 (.int .i64 s.length)) 10 (.int .i64 k)), upd (fun _ => none) b (some (fillC cI [.int .i64 0] 1 (digN s) k (List.replicate j .any)))⟩) (fun k => k ≤ s.length) (fun k => s.length - k) (0) ?_ ?_ ?_); exact Nat.zero_le _; ((repeat' (first | exact sub_noneH (by assumption) | exact sub_none | refine sub_upd ?_ ?_ | refine sub_noneE ?_)) <;> simp [-List.getD_eq_getElem?_getD, -List.drop_one, ↓splitB_true, ↓splitB_false, go_sem, fill_zero, hd]); rintro k hk)
    | (refine ⟨k + 1, by omega, by first | omega | (simp; done) | (simp; omega), ?_⟩; ((repeat' (first | exact sub_noneH (by assumption) | exact sub_none | refine sub_upd ?_ ?_ | refine sub_noneE ?_)) <;> simp [-List.getD_eq_getElem?_getD, -List.drop_one, ↓splitB_true, ↓splitB_false, go_sem, fill_zero, hd]))
    | (refine AW_block ?_)
    | (refine AW_exit ?_; simp [-List.getD_eq_getElem?_getD, -List.drop_one, ↓splitB_true, ↓splitB_false, go_sem])
    | (refine AW_skip ?_; simp [-List.getD_eq_getElem?_getD, -List.drop_one, ↓splitB_true, ↓splitB_false, go_sem])
    | (refine AW_ret ?_; simp [-List.getD_eq_getElem?_getD, -List.drop_one, ↓splitB_true, ↓splitB_false, go_sem, Try.results74])
    | (intro hx; change AW _ _ _ _ _ _)
    | (refine ⟨?_, ?_⟩ <;> change AW _ _ _ _ _ _)
    | (intro hx; refine ⟨fun hs => ?_, fun hs => ?_⟩)
    | (refine ⟨fun hs => ?_, fun hs => ?_⟩)
    | (refine ⟨?_, fun hs => ?_⟩; change AW _ _ _ _ _ _)
    | (refine ⟨fun hs => ?_, ?_⟩; rotate_left; change AW _ _ _ _ _ _; rotate_left)))
noncomputable def readDigits_pureC : Con := .pure fun
  | [.str s] => ((s.length ≤ 1048576), fr 1 cI (digN s))
  | _ => (False, .any)
attribute [go_sem] readDigits_pureC
theorem readDigits_pureC_ok : ConOk Try.prog 74 readDigits_pureC := by
  refine ⟨callable Try.func74 (by decide) rfl, fun args h => ?_⟩
  revert h
  dsimp only
  split
  · intro h
    have hl := h
    skip
    exact ⟨readDigits_pure _ hl, by simp [go_sem]⟩
  · intro h
    exact h.elim
noncomputable def Γp11 : FuncId → Con := ext Γp10 74 readDigits_pureC
attribute [go_sem] Γp11
theorem Γp11_ok : ∀ g, ConOk Try.prog g (Γp11 g) := ext_ok Γp10_ok readDigits_pureC_ok
end Go.Proofs.Ytlbbhkpjjciaiaa.Vm

