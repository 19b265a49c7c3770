/-
  FnReduceLasso: the walk of the law. No conditions.
-/
import Derived.Test.YtlbbhkpjjciaiaaD10
namespace Go.Proofs.Ytlbbhkpjjciaiaa.Vm
open Go
set_option linter.unusedVariables false
set_option linter.unusedSimpArgs false
set_option maxRecDepth 200000

set_option maxHeartbeats 4000000 in
theorem lawFnReduceLasso (xs : List UInt8)  : Pure Try.prog 9 [li cY xs] (.bool true) := by
  refine Pure.of_walk Try.func9 rfl (by simp [Try.f9]) (by simp [-List.drop_one, go_sem]) fun B hK => ?_
  obtain ⟨_, _, _, _, _, _, _, _, e9, e10⟩ := g_range xs; obtain ⟨A, hA⟩ : ∃ A, gS xs = A := ⟨_, rfl⟩; obtain ⟨C, hC⟩ : ∃ C, gL xs = C := ⟨_, rfl⟩; (rw [hA] at e9); (rw [hC] at e10); obtain ⟨X, hX⟩ : ∃ X, redS A C = X := ⟨_, rfl⟩; obtain ⟨Y, hY⟩ : ∃ Y, redL A C = Y := ⟨_, rfl⟩; cases hv : Vm.B (LasOk A C)
  all_goals (repeat' (first
    | refine AW_seq ?_
    | refine AW_region (id := 0) Γs48_ok [] (by kernel_rfl) ?_; simp  [-List.getD_eq_getElem?_getD, -List.drop_one, ↓splitB_true, ↓splitB_false, go_sem]
    | refine AW_region (id := 1) Γs48_ok [] (by kernel_rfl) ?_; simp  [-List.getD_eq_getElem?_getD, -List.drop_one, ↓splitB_true, ↓splitB_false, go_sem]
    | refine AW_region (id := 2) Γs48_ok [] (by kernel_rfl) ?_; simp  [-List.getD_eq_getElem?_getD, -List.drop_one, ↓splitB_true, ↓splitB_false, go_sem]
    | refine AW_region (id := 3) Γs48_ok [] (by kernel_rfl) ?_; simp  [-List.getD_eq_getElem?_getD, -List.drop_one, ↓splitB_true, ↓splitB_false, go_sem, hA, hC]; try (refine AW_data hK 3 ?_; simp [go_sem])
    | refine AW_region (id := 4) Γs48_ok [] (by kernel_rfl) ?_; simp  [-List.getD_eq_getElem?_getD, -List.drop_one, ↓splitB_true, ↓splitB_false, go_sem, hv, hX, hY]; try (refine AW_data hK 4 ?_; simp [go_sem])
    | refine AW_region (id := 5) Γs48_ok [] (by kernel_rfl) ?_; simp  [-List.getD_eq_getElem?_getD, -List.drop_one, ↓splitB_true, ↓splitB_false, go_sem, hv, hX, hY]; try (refine AW_data hK 6 ?_; simp [go_sem])
    | refine AW_region (id := 6) Γs48_ok [33, 39] (by kernel_rfl) ?_; simp  [-List.getD_eq_getElem?_getD, -List.drop_one, ↓splitB_true, ↓splitB_false, go_sem]; try (refine ⟨fun s6a => ?_, fun s6a => ?_⟩ <;> (try simp [B_iff, B_not] at s6a) <;> try (refine ⟨fun s6b => ?_, fun s6b => ?_⟩ <;> (try simp [B_iff, B_not] at s6b) <;> try (refine ⟨fun s6c => ?_, fun s6c => ?_⟩ <;> (try simp [B_iff, B_not] at s6c))))
    | refine AW_region (id := 7) Γs48_ok [46] (by kernel_rfl) ?_; simp  [-List.getD_eq_getElem?_getD, -List.drop_one, ↓splitB_true, ↓splitB_false, go_sem]; try (refine ⟨fun s7a => ?_, fun s7a => ?_⟩ <;> (try simp [B_iff, B_not] at s7a) <;> try (refine ⟨fun s7b => ?_, fun s7b => ?_⟩ <;> (try simp [B_iff, B_not] at s7b)))
    | ((have hL : LasOk A C := (by rw [B_iff] at hv; exact hv)); (have hXY : LasOk X Y := (by rw [← hX, ← hY]; exact red_valid hL)); (have hrr := red_red (a := A) (b := C) hL.2.2.2.1); (have hsm := red_same hL); (have l1 := redS_le2 A C); (have l2 := redL_le2 (a := A) (b := C) hL.2.2.2.1); (have hlet : ∀ i : Int, 0 ≤ i → letter X Y i = letter A C i := (fun i hi => by rw [← hX, ← hY]; exact red_letter hL hi)); (rw [hX, hY] at hrr hsm); (rw [hX] at l1); (rw [hY] at l2)); refine AW_region (id := 8) Γs48_ok [] (by kernel_rfl) ?_; simp  [-List.getD_eq_getElem?_getD, -List.drop_one, ↓splitB_true, ↓splitB_false, go_sem]
    | refine AW_region (id := 9) Γs48_ok [] (by kernel_rfl) ?_; simp  [-List.getD_eq_getElem?_getD, -List.drop_one, ↓splitB_true, ↓splitB_false, go_sem, wrap_in (x := 2 * (C.length : Int)) (by omega) (by omega), wrap_in (x := (A.length : Int) + 2 * (C.length : Int)) (by omega) (by omega)]
    | refine AW_region (id := 11) Γs48_ok [] (by kernel_rfl) ?_; simp  [-List.getD_eq_getElem?_getD, -List.drop_one, ↓splitB_true, ↓splitB_false, go_sem, letD, hv, (show ¬ (i : Int) < 0 by omega), (show (i : Int) ≤ 9223372036854775807 by omega), (show i ≤ 9223372036854775807 by omega)]
    | refine AW_region (id := 12) Γs48_ok [] (by kernel_rfl) ?_; simp  [-List.getD_eq_getElem?_getD, -List.drop_one, ↓splitB_true, ↓splitB_false, go_sem, letD, B_yes hXY, (show ¬ (i : Int) < 0 by omega), (show (i : Int) ≤ 9223372036854775807 by omega), (show i ≤ 9223372036854775807 by omega)]
    | refine AW_region (id := 13) Γs48_ok [77, 81] (by kernel_rfl) ?_; simp  [-List.getD_eq_getElem?_getD, -List.drop_one, ↓splitB_true, ↓splitB_false, go_sem, hlet i (by omega)]; try (refine ⟨fun s13a => ?_, fun s13a => ?_⟩ <;> (try simp [B_iff, B_not] at s13a) <;> try (refine ⟨fun s13b => ?_, fun s13b => ?_⟩ <;> (try simp [B_iff, B_not] at s13b) <;> try (refine ⟨fun s13c => ?_, fun s13c => ?_⟩ <;> (try simp [B_iff, B_not] at s13c))))
    | refine AW_region (id := 14) Γs48_ok [] (by kernel_rfl) ?_; simp  [-List.getD_eq_getElem?_getD, -List.drop_one, ↓splitB_true, ↓splitB_false, go_sem]
    | refine AW_region (id := 10) Γs48_ok [] (by kernel_rfl) ?_; simp  [-List.getD_eq_getElem?_getD, -List.drop_one, ↓splitB_true, ↓splitB_false, go_sem, wrapS (k := i) (by omega)]
    | refine AW_region (id := 15) Γs48_ok [] (by kernel_rfl) ?_; simp  [-List.getD_eq_getElem?_getD, -List.drop_one, ↓splitB_true, ↓splitB_false, go_sem, B_yes hXY, hrr.1, hrr.2]; try (refine AW_data hK 13 ?_; simp [go_sem])
    | refine AW_region (id := 16) Γs48_ok [92, 97, 106, 115] (by kernel_rfl) ?_; simp  [-List.getD_eq_getElem?_getD, -List.drop_one, ↓splitB_true, ↓splitB_false, go_sem, l1, l2, hsm]; try (refine ⟨fun s16a => ?_, fun s16a => ?_⟩ <;> (try simp [B_iff, B_not] at s16a) <;> try (refine ⟨fun s16b => ?_, fun s16b => ?_⟩ <;> (try simp [B_iff, B_not] at s16b) <;> try (refine ⟨fun s16c => ?_, fun s16c => ?_⟩ <;> (try simp [B_iff, B_not] at s16c) <;> try (refine ⟨fun s16d => ?_, fun s16d => ?_⟩ <;> (try simp [B_iff, B_not] at s16d) <;> try (refine ⟨fun s16e => ?_, fun s16e => ?_⟩ <;> (try simp [B_iff, B_not] at s16e))))))
    | refine AW_condA (c := .tmp 17) ?_; simp [-List.getD_eq_getElem?_getD, -List.drop_one, ↓splitB_true, ↓splitB_false, go_sem]; try first | (refine ⟨?_, ?_⟩ <;> change AW _ _ _ _ _ _) | (refine ⟨fun c17 => ?_, fun c17 => ?_⟩ <;> (try simp [B_iff, B_not] at c17))
    | refine AW_condA (c := .tmp 42) ?_; simp [-List.getD_eq_getElem?_getD, -List.drop_one, ↓splitB_true, ↓splitB_false, go_sem]; try first | (refine ⟨?_, ?_⟩ <;> change AW _ _ _ _ _ _) | (refine ⟨fun c42 => ?_, fun c42 => ?_⟩ <;> (try simp [B_iff, B_not] at c42))
    | refine AW_condA (c := .tmp 60) ?_; simp [-List.getD_eq_getElem?_getD, -List.drop_one, ↓splitB_true, ↓splitB_false, go_sem]; try first | (refine ⟨?_, ?_⟩ <;> change AW _ _ _ _ _ _) | (refine ⟨fun c60 => ?_, fun c60 => ?_⟩ <;> (try simp [B_iff, B_not] at c60))
    | refine AW_condA (c := .tmp 85) ?_; simp [-List.getD_eq_getElem?_getD, -List.drop_one, ↓splitB_true, ↓splitB_false, go_sem]; try first | (refine ⟨?_, ?_⟩ <;> change AW _ _ _ _ _ _) | (refine ⟨fun c85 => ?_, fun c85 => ?_⟩ <;> (try simp [B_iff, B_not] at c85))
    | (refine AW_block (id := 0) (AW_loop (ι := Nat) (fun i : Nat => ⟨(upd (upd (upd (upd (fun _ => .any) 2 (.bool false)) 3 (.pd [li cI A, li cI C])) 4 (.pd [li cI X, li cI Y])) 8 (.int .i64 i)), fun _ => none⟩) (fun i => i ≤ A.length + 2 * C.length) (fun i => A.length + 2 * C.length - i) (0) ?_ ?_ ?_); exact Nat.zero_le _; ((repeat' (first | exact sub_noneH (by assumption) | exact sub_none | refine sub_upd ?_ ?_ | refine sub_noneE ?_)) <;> simp [-List.getD_eq_getElem?_getD, -List.drop_one, ↓splitB_true, ↓splitB_false, go_sem]); rintro i hi)
    | (refine ⟨i + 1, by omega, by first | omega | (simp; done) | (simp; omega), ?_⟩; ((repeat' (first | exact sub_noneH (by assumption) | exact sub_none | refine sub_upd ?_ ?_ | refine sub_noneE ?_)) <;> simp [-List.getD_eq_getElem?_getD, -List.drop_one, ↓splitB_true, ↓splitB_false, go_sem]))
    | (refine AW_block ?_)
    | (refine AW_exit ?_; simp [-List.getD_eq_getElem?_getD, -List.drop_one, ↓splitB_true, ↓splitB_false, go_sem])
    | (refine AW_skip ?_; simp [-List.getD_eq_getElem?_getD, -List.drop_one, ↓splitB_true, ↓splitB_false, go_sem])
    | (refine AW_ret ?_; simp [-List.getD_eq_getElem?_getD, -List.drop_one, ↓splitB_true, ↓splitB_false, go_sem, Try.results9])
    | (intro hx; change AW _ _ _ _ _ _)
    | (refine ⟨?_, ?_⟩ <;> change AW _ _ _ _ _ _)
    | (intro hx; refine ⟨fun hs => ?_, fun hs => ?_⟩)
    | (refine ⟨fun hs => ?_, fun hs => ?_⟩)
    | (refine ⟨?_, fun hs => ?_⟩; change AW _ _ _ _ _ _)
    | (refine ⟨fun hs => ?_, ?_⟩; rotate_left; change AW _ _ _ _ _ _; rotate_left)
    | (exfalso; omega)))
end Go.Proofs.Ytlbbhkpjjciaiaa.Vm

