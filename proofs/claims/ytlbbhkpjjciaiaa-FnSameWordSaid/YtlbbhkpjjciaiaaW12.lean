/-
  FnSameWord: the walk of the law. No conditions.
-/
import Derived.Test.YtlbbhkpjjciaiaaD12
namespace Go.Proofs.Ytlbbhkpjjciaiaa.Vm
open Go
set_option linter.unusedVariables false
set_option linter.unusedSimpArgs false
set_option maxRecDepth 200000

def AgreeTill (a b c d : List Int) (n : Nat) : Prop := ∀ i : Nat, i < n → letter a b (i : Int) = letter c d (i : Int)
theorem agree_yes {a b c d : List Int} {n : Nat} (h : AgreeTill a b c d n) : B (AgreeTill a b c d (n + 1)) = decide (letter a b (n : Int) = letter c d (n : Int)) := by
  rw [Bool.eq_iff_iff, B_iff, decide_eq_true_eq]
  refine ⟨fun k => k n (by omega), fun k i hi => ?_⟩
  rcases Nat.lt_or_ge i n with q | q
  · exact h i q
  · obtain rfl : i = n := by omega
    exact k
theorem agree_no {a b c d : List Int} {n : Nat} (h : ¬ AgreeTill a b c d n) : B (AgreeTill a b c d (n + 1)) = false := B_no fun k => h fun i hi => k i (by omega)

set_option maxHeartbeats 4000000 in
theorem lawFnSameWord (xs : List UInt8)  : Pure Try.prog 11 [li cY xs] (.bool true) := by
  refine Pure.of_walk Try.func11 rfl (by simp [Try.f11]) (by simp [-List.drop_one, go_sem]) fun B hK => ?_
  obtain ⟨e1, e2, e3, e4⟩ := f_len xs; obtain ⟨A, hA⟩ : ∃ A, fA xs = A := ⟨_, rfl⟩; obtain ⟨C, hC⟩ : ∃ C, fB xs = C := ⟨_, rfl⟩; obtain ⟨E, hE⟩ : ∃ E, fC xs = E := ⟨_, rfl⟩; obtain ⟨F, hF⟩ : ∃ F, fD xs = F := ⟨_, rfl⟩; (rw [hA] at e1); (rw [hC] at e2); (rw [hE] at e3); (rw [hF] at e4); obtain ⟨sm, hsm⟩ : ∃ sm, Vm.B (Same A C E F) = sm := ⟨_, rfl⟩; (have hsm2 : Vm.B (Same E F A C) = sm := (by rw [← hsm, show Same E F A C = Same A C E F from propext (same_symm E F A C)])); (have hM1 : 0 ≤ 2 * (C.length : Int) * (F.length : Int) := Int.mul_nonneg (by omega) (by omega)); (have hM2 : 2 * (C.length : Int) * (F.length : Int) ≤ 2000000 := (by have := Int.mul_le_mul (a := 2 * (C.length : Int)) (b := (F.length : Int)) (c := 2000) (d := 1000) (by omega) (by omega) (by omega) (by omega); omega)); obtain ⟨N, hN⟩ : ∃ N : Nat, A.length + E.length + 2 * C.length * F.length = N := ⟨_, rfl⟩; (have hNI : (A.length : Int) + (E.length : Int) + 2 * (C.length : Int) * (F.length : Int) = (N : Int) := (by rw [← hN]; push_cast; rfl)); (cases h1 : Vm.B (LasOk A C) <;> cases h2 : Vm.B (LasOk E F))
  all_goals (repeat' (first
    | refine AW_seq ?_
    | refine AW_region (id := 0) Γs49_ok [] (by kernel_rfl) ?_; simp  [-List.getD_eq_getElem?_getD, -List.drop_one, ↓splitB_true, ↓splitB_false, go_sem]
    | refine AW_region (id := 1) Γs49_ok [] (by kernel_rfl) ?_; simp  [-List.getD_eq_getElem?_getD, -List.drop_one, ↓splitB_true, ↓splitB_false, go_sem]
    | refine AW_region (id := 2) Γs49_ok [] (by kernel_rfl) ?_; simp  [-List.getD_eq_getElem?_getD, -List.drop_one, ↓splitB_true, ↓splitB_false, go_sem]
    | refine AW_region (id := 3) Γs49_ok [] (by kernel_rfl) ?_; simp  [-List.getD_eq_getElem?_getD, -List.drop_one, ↓splitB_true, ↓splitB_false, go_sem, hA, hC, hE, hF]; try (refine AW_data hK 3 ?_; simp [go_sem]; refine AW_data hK 4 ?_; simp [go_sem])
    | refine AW_region (id := 4) Γs49_ok [] (by kernel_rfl) ?_; simp  [-List.getD_eq_getElem?_getD, -List.drop_one, ↓splitB_true, ↓splitB_false, go_sem, hsm]
    | refine AW_region (id := 5) Γs49_ok [28, 35, 40] (by kernel_rfl) ?_; simp  [-List.getD_eq_getElem?_getD, -List.drop_one, ↓splitB_true, ↓splitB_false, go_sem, h1, h2, hsm, hsm2]; try (refine ⟨fun s5a => ?_, fun s5a => ?_⟩ <;> (try simp [B_iff, B_not] at s5a) <;> try (refine ⟨fun s5b => ?_, fun s5b => ?_⟩ <;> (try simp [B_iff, B_not] at s5b) <;> try (refine ⟨fun s5c => ?_, fun s5c => ?_⟩ <;> (try simp [B_iff, B_not] at s5c) <;> try (refine ⟨fun s5d => ?_, fun s5d => ?_⟩ <;> (try simp [B_iff, B_not] at s5d)))))
    | refine AW_region (id := 6) Γs49_ok [] (by kernel_rfl) ?_; simp  [-List.getD_eq_getElem?_getD, -List.drop_one, ↓splitB_true, ↓splitB_false, go_sem, hsm]
    | ((have hL1 : LasOk A C := (by rw [B_iff] at h1; exact h1)); (have hL2 : LasOk E F := (by rw [B_iff] at h2; exact h2)); (have hag0 : Vm.B (AgreeTill A C E F 0) = true := B_yes (fun i hi => by omega)); (have hagN : Vm.B (AgreeTill A C E F N) = sm := (by rw [← hsm, ← hN]; exact congrArg Vm.B (propext (same_iff hL1 hL2)))); (have hself := same_self hL1)); refine AW_region (id := 7) Γs49_ok [] (by kernel_rfl) ?_; simp  [-List.getD_eq_getElem?_getD, -List.drop_one, ↓splitB_true, ↓splitB_false, go_sem]
    | refine AW_region (id := 8) Γs49_ok [] (by kernel_rfl) ?_; simp  [-List.getD_eq_getElem?_getD, -List.drop_one, ↓splitB_true, ↓splitB_false, go_sem]
    | refine AW_region (id := 9) Γs49_ok [] (by kernel_rfl) ?_; simp  [-List.getD_eq_getElem?_getD, -List.drop_one, ↓splitB_true, ↓splitB_false, go_sem, hNI, wrap_in (x := (A.length : Int) + (E.length : Int)) (by omega) (by omega), wrap_in (x := 2 * (C.length : Int)) (by omega) (by omega), wrap_in (x := 2 * (C.length : Int) * (F.length : Int)) (by omega) (by omega), wrap_in (x := (N : Int)) (by omega) (by omega)]
    | refine AW_region (id := 11) Γs49_ok [] (by kernel_rfl) ?_; simp  [-List.getD_eq_getElem?_getD, -List.drop_one, ↓splitB_true, ↓splitB_false, go_sem, letD, h1, (show ¬ (i : Int) < 0 by omega), (show (i : Int) ≤ 9223372036854775807 by omega), (show i ≤ 9223372036854775807 by omega)]
    | refine AW_region (id := 12) Γs49_ok [] (by kernel_rfl) ?_; simp  [-List.getD_eq_getElem?_getD, -List.drop_one, ↓splitB_true, ↓splitB_false, go_sem, letD, h2, (show ¬ (i : Int) < 0 by omega), (show (i : Int) ≤ 9223372036854775807 by omega), (show i ≤ 9223372036854775807 by omega)]
    | refine AW_region (id := 13) Γs49_ok [83] (by kernel_rfl) ?_; simp  [-List.getD_eq_getElem?_getD, -List.drop_one, ↓splitB_true, ↓splitB_false, go_sem]; try (refine ⟨fun s13a => ?_, fun s13a => ?_⟩ <;> (try simp [B_iff, B_not] at s13a) <;> try (refine ⟨fun s13b => ?_, fun s13b => ?_⟩ <;> (try simp [B_iff, B_not] at s13b)))
    | (first | have hst := agree_yes s13a | have hst := agree_no s13a); refine AW_region (id := 10) Γs49_ok [] (by kernel_rfl) ?_; simp  [-List.getD_eq_getElem?_getD, -List.drop_one, ↓splitB_true, ↓splitB_false, go_sem, wrapS (k := i) (by omega)]
    | ((obtain rfl : i = N := (by omega))); refine AW_region (id := 14) Γs49_ok [91] (by kernel_rfl) ?_; simp  [-List.getD_eq_getElem?_getD, -List.drop_one, ↓splitB_true, ↓splitB_false, go_sem, hagN, hself]; try (refine ⟨fun s14a => ?_, fun s14a => ?_⟩ <;> (try simp [B_iff, B_not] at s14a) <;> try (refine ⟨fun s14b => ?_, fun s14b => ?_⟩ <;> (try simp [B_iff, B_not] at s14b)))
    | refine AW_condA (c := .tmp 14) ?_; simp [-List.getD_eq_getElem?_getD, -List.drop_one, ↓splitB_true, ↓splitB_false, go_sem]; try first | (refine ⟨?_, ?_⟩ <;> change AW _ _ _ _ _ _) | (refine ⟨fun c14 => ?_, fun c14 => ?_⟩ <;> (try simp [B_iff, B_not] at c14))
    | refine AW_condA (c := .tmp 44) ?_; simp [-List.getD_eq_getElem?_getD, -List.drop_one, ↓splitB_true, ↓splitB_false, go_sem]; try first | (refine ⟨?_, ?_⟩ <;> change AW _ _ _ _ _ _) | (refine ⟨fun c44 => ?_, fun c44 => ?_⟩ <;> (try simp [B_iff, B_not] at c44))
    | refine AW_condA (c := .tmp 67) ?_; simp [-List.getD_eq_getElem?_getD, -List.drop_one, ↓splitB_true, ↓splitB_false, go_sem]; try first | (refine ⟨?_, ?_⟩ <;> change AW _ _ _ _ _ _) | (refine ⟨fun c67 => ?_, fun c67 => ?_⟩ <;> (try simp [B_iff, B_not] at c67))
    | (refine AW_block (id := 0) (AW_loop (ι := Nat) (fun i : Nat => ⟨(upd (upd (upd (upd (upd (upd (fun _ => .any) 2 (.bool false)) 3 (.pd [li cI A, li cI C])) 4 (.pd [li cI E, li cI F])) 5 (.bool sm)) 6 (.bool (Vm.B (AgreeTill A C E F i)))) 7 (.int .i64 i)), fun _ => none⟩) (fun i => i ≤ N) (fun i => N - i) (0) ?_ ?_ ?_); exact Nat.zero_le _; ((repeat' (first | exact sub_noneH (by assumption) | exact sub_none | refine sub_upd ?_ ?_ | refine sub_noneE ?_)) <;> simp [-List.getD_eq_getElem?_getD, -List.drop_one, ↓splitB_true, ↓splitB_false, go_sem, hag0]); rintro i hi)
    | (refine ⟨i + 1, by omega, by first | omega | (simp; done) | (simp; omega), ?_⟩; ((repeat' (first | exact sub_noneH (by assumption) | exact sub_none | refine sub_upd ?_ ?_ | refine sub_noneE ?_)) <;> simp [-List.getD_eq_getElem?_getD, -List.drop_one, ↓splitB_true, ↓splitB_false, go_sem, hst]))
    | (refine AW_block ?_)
    | (refine AW_exit ?_; simp [-List.getD_eq_getElem?_getD, -List.drop_one, ↓splitB_true, ↓splitB_false, go_sem])
    | (refine AW_skip ?_; simp [-List.getD_eq_getElem?_getD, -List.drop_one, ↓splitB_true, ↓splitB_false, go_sem])
    | (refine AW_ret ?_; simp [-List.getD_eq_getElem?_getD, -List.drop_one, ↓splitB_true, ↓splitB_false, go_sem, Try.results11])
    | (intro hx; change AW _ _ _ _ _ _)
    | (refine ⟨?_, ?_⟩ <;> change AW _ _ _ _ _ _)
    | (intro hx; refine ⟨fun hs => ?_, fun hs => ?_⟩)
    | (refine ⟨fun hs => ?_, fun hs => ?_⟩)
    | (refine ⟨?_, fun hs => ?_⟩; change AW _ _ _ _ _ _)
    | (refine ⟨fun hs => ?_, ?_⟩; rotate_left; change AW _ _ _ _ _ _; rotate_left)
    | (exfalso; omega)))
end Go.Proofs.Ytlbbhkpjjciaiaa.Vm

