/-
  FnSuffixAt: the walk of the law. No conditions.
-/
import Derived.Test.YtlbbhkpjjciaiaaD7
namespace Go.Proofs.Ytlbbhkpjjciaiaa.Vm
open Go
set_option linter.unusedVariables false
set_option linter.unusedSimpArgs false
set_option maxRecDepth 200000

theorem sfS_yes {a b : List Int} {i : Int} (h : i < (a.length : Int)) : sfS a b i = a.drop i.toNat := if_pos h
theorem sfL_yes {a b : List Int} {i : Int} (h : i < (a.length : Int)) : sfL a b i = b := if_pos h
theorem sfS_no {a b : List Int} {i : Int} (h : ¬ i < (a.length : Int)) : sfS a b i = [] := if_neg h
theorem sfL_no {a b : List Int} {i : Int} (h : ¬ i < (a.length : Int)) : sfL a b i = b.drop (turn a b i) ++ b.take (turn a b i) := if_neg h
theorem cat_len1 {f : Int → List D} [Wide f 1] (xs : List Int) : (cat f xs).length = xs.length := by rw [cat_length]; omega

set_option maxHeartbeats 4000000 in
theorem lawFnSuffixAt (xs : List UInt8) (zs : List UInt8)  : Pure Try.prog 7 [li cY xs, li cY zs] (.bool true) := by
  refine Pure.of_walk Try.func7 rfl (by simp [Try.f7]) (by simp [-List.drop_one, go_sem]) fun B hK => ?_
  obtain ⟨_, _, x3, x4, x5, x6⟩ := x_range xs; obtain ⟨A, hA⟩ : ∃ A, xS xs = A := ⟨_, rfl⟩; obtain ⟨C, hC⟩ : ∃ C, xL xs = C := ⟨_, rfl⟩; obtain ⟨I, hI⟩ : ∃ I, xI xs = I := ⟨_, rfl⟩; (rw [hI] at x5 x6); (rw [hA] at x3); (rw [hC] at x4); obtain ⟨K, hK'⟩ : ∃ K, (zs.length : Int).tmod 9 = K := ⟨_, rfl⟩; (have k0 : 0 ≤ K := (by rw [← hK']; exact Int.tmod_nonneg _ (by omega))); (have k8 : K < 9 := (by rw [← hK']; exact Int.tmod_lt_of_pos _ (by omega))); (cases hv : Vm.B (LasOk A C ∧ 0 ≤ I) <;> by_cases hi : I < (A.length : Int))
  all_goals (repeat' (first
    | refine AW_seq ?_
    | refine AW_region (id := 0) Γs46_ok [] (by kernel_rfl) ?_; simp  [-List.getD_eq_getElem?_getD, -List.drop_one, ↓splitB_true, ↓splitB_false, go_sem]
    | refine AW_region (id := 1) Γs46_ok [23] (by kernel_rfl) ?_; simp  [-List.getD_eq_getElem?_getD, -List.drop_one, ↓splitB_true, ↓splitB_false, go_sem]; try (refine ⟨fun s1a => ?_, fun s1a => ?_⟩ <;> (try simp [B_iff, B_not] at s1a) <;> try (refine ⟨fun s1b => ?_, fun s1b => ?_⟩ <;> (try simp [B_iff, B_not] at s1b)))
    | refine AW_region (id := 2) Γs46_ok [] (by kernel_rfl) ?_; simp  [-List.getD_eq_getElem?_getD, -List.drop_one, ↓splitB_true, ↓splitB_false, go_sem]
    | refine AW_region (id := 3) Γs46_ok [] (by kernel_rfl) ?_; simp  [-List.getD_eq_getElem?_getD, -List.drop_one, ↓splitB_true, ↓splitB_false, go_sem, hA, hC, hI]; try (refine AW_data hK 5 ?_; simp [go_sem])
    | refine AW_region (id := 4) Γs46_ok [] (by kernel_rfl) ?_; simp  [-List.getD_eq_getElem?_getD, -List.drop_one, ↓splitB_true, ↓splitB_false, go_sem, hv, hi, x6]; try (refine AW_data hK 7 ?_; simp [go_sem])
    | refine AW_region (id := 5) Γs46_ok [] (by kernel_rfl) ?_; simp  [-List.getD_eq_getElem?_getD, -List.drop_one, ↓splitB_true, ↓splitB_false, go_sem, hv, hi, x6]; try (refine AW_data hK 9 ?_; simp [go_sem]; (try (have hw := hv; rw [B_iff] at hw; obtain ⟨hL, hp⟩ := hw; obtain ⟨X, hX⟩ : ∃ X, sfS A C I = X := ⟨_, rfl⟩; obtain ⟨Y, hY⟩ : ∃ Y, sfL A C I = Y := ⟨_, rfl⟩; refine AW_less (S' := ⟨upd (upd (upd (upd (upd (upd (upd (upd (fun _ => .any) 1 (li cY zs)) 4 (.bool false)) 5 (.pd [li cI A, li cI C])) 6 (.int .i64 I)) 7 (.pd [li cI X, li cI Y])) 8 (.bool true)) 9 (.pd [li cI X, li cI Y])) 10 (.bool true), fun _ => none⟩) (by ((repeat' (first | exact sub_none | refine sub_upd ?_ ?_)) <;> first | (simp [go_sem]; done) | (rw [← hX, ← hY]; first | (rw [sfS_yes hi, sfL_yes hi]; simp [go_sem]; done) | (rw [sfS_no hi, sfL_no hi]; simp [go_sem]; done)))) ?_; have hXY : LasOk X Y := (by rw [← hX, ← hY]; exact suf_valid hL); by_cases hk : K < (X.length : Int) <;> by_cases hik : I + K < (A.length : Int))))
    | refine AW_region (id := 6) Γs46_ok [48, 54] (by kernel_rfl) ?_; simp  [-List.getD_eq_getElem?_getD, -List.drop_one, ↓splitB_true, ↓splitB_false, go_sem]; try (refine ⟨fun s6a => ?_, fun s6a => ?_⟩ <;> (try simp [B_iff, B_not] at s6a) <;> try (refine ⟨fun s6b => ?_, fun s6b => ?_⟩ <;> (try simp [B_iff, B_not] at s6b) <;> try (refine ⟨fun s6c => ?_, fun s6c => ?_⟩ <;> (try simp [B_iff, B_not] at s6c))))
    | refine AW_region (id := 7) Γs46_ok [61] (by kernel_rfl) ?_; simp  [-List.getD_eq_getElem?_getD, -List.drop_one, ↓splitB_true, ↓splitB_false, go_sem]; try (refine ⟨fun s7a => ?_, fun s7a => ?_⟩ <;> (try simp [B_iff, B_not] at s7a) <;> try (refine ⟨fun s7b => ?_, fun s7b => ?_⟩ <;> (try simp [B_iff, B_not] at s7b)))
    | refine AW_region (id := 8) Γs46_ok [] (by kernel_rfl) ?_; simp  [-List.getD_eq_getElem?_getD, -List.drop_one, ↓splitB_true, ↓splitB_false, go_sem, hK']
    | refine AW_region (id := 9) Γs46_ok [] (by kernel_rfl) ?_; simp  [-List.getD_eq_getElem?_getD, -List.drop_one, ↓splitB_true, ↓splitB_false, go_sem]
    | refine AW_region (id := 10) Γs46_ok [] (by kernel_rfl) ?_; simp  [-List.getD_eq_getElem?_getD, -List.drop_one, ↓splitB_true, ↓splitB_false, go_sem, B_yes hXY]
    | refine AW_region (id := 11) Γs46_ok [] (by kernel_rfl) ?_; simp  [-List.getD_eq_getElem?_getD, -List.drop_one, ↓splitB_true, ↓splitB_false, go_sem, letD, B_yes hXY, (show ¬ K < 0 by omega), (show K ≤ 9223372036854775807 by omega)]
    | refine AW_region (id := 12) Γs46_ok [] (by kernel_rfl) ?_; simp  [-List.getD_eq_getElem?_getD, -List.drop_one, ↓splitB_true, ↓splitB_false, go_sem, letD, B_yes hL, wrap_in (x := I + K) (by omega) (by omega), (show ¬ I + K < 0 by omega), (show I + K ≤ 9223372036854775807 by omega)]
    | refine AW_region (id := 13) Γs46_ok [] (by kernel_rfl) ?_; simp  [-List.getD_eq_getElem?_getD, -List.drop_one, ↓splitB_true, ↓splitB_false, go_sem, B_yes (show LasOk X Y ∧ 0 ≤ K from ⟨hXY, k0⟩), hk, (show K ≤ 9223372036854775807 by omega)]; try (refine AW_data hK 16 ?_; simp [go_sem])
    | refine AW_region (id := 14) Γs46_ok [] (by kernel_rfl) ?_; simp  [-List.getD_eq_getElem?_getD, -List.drop_one, ↓splitB_true, ↓splitB_false, go_sem, B_yes (show LasOk A C ∧ 0 ≤ I + K from ⟨hL, by omega⟩), hik, wrap_in (x := I + K) (by omega) (by omega), (show I + K ≤ 9223372036854775807 by omega)]; try ((refine AW_data hK 18 ?_); (simp [go_sem]); (obtain ⟨q1, q2⟩ := suf_suf hL hp k0); (rw [hX, hY] at q1 q2); (have hlet := suf_letter hL hp k0); (rw [hX, hY] at hlet); (have hZ : LasOk (sfS A C (I + K)) (sfL A C (I + K)) := suf_valid hL); (obtain ⟨Z1, hZ1⟩ : ∃ Z, sfS A C (I + K) = Z := ⟨_, rfl⟩); (obtain ⟨Z2, hZ2⟩ : ∃ Z, sfL A C (I + K) = Z := ⟨_, rfl⟩); (rw [hZ1] at q1); (rw [hZ2] at q2); (rw [hZ1, hZ2] at hZ); refine AW_less (S' := ⟨upd (upd (upd (upd (upd (upd (upd (upd (upd (upd (fun _ => .any) 4 (.bool false)) 7 (.pd [li cI X, li cI Y])) 12 (.int .i64 (letter X Y K))) 13 (.bool true)) 14 (.int .i64 (letter A C (I + K)))) 15 (.bool true)) 16 (.pd [li cI Z1, li cI Z2])) 17 (.bool true)) 18 (.pd [li cI Z1, li cI Z2])) 19 (.bool true), fun _ => none⟩) (by ((repeat' (first | exact sub_none | refine sub_upd ?_ ?_)) <;> first | (simp [go_sem]; done) | (rw [← hZ1, ← hZ2]; first | (rw [sfS_yes hik, sfL_yes hik]; simp [go_sem]; done) | (rw [sfS_no hik, sfL_no hik]; simp [go_sem]; done)) | (rw [q1, q2]; first | (rw [sfS_yes hk, sfL_yes hk]; simp [go_sem]; done) | (rw [sfS_no hk, sfL_no hk]; simp [go_sem]; done)))) ?_)
    | refine AW_region (id := 15) Γs46_ok [102, 105, 108, 111, 116, 121] (by kernel_rfl) ?_; simp  [-List.getD_eq_getElem?_getD, -List.drop_one, ↓splitB_true, ↓splitB_false, go_sem, hlet, same_self hZ, B_yes hXY]; try (refine ⟨fun s15a => ?_, fun s15a => ?_⟩ <;> (try simp [B_iff, B_not] at s15a) <;> try (refine ⟨fun s15b => ?_, fun s15b => ?_⟩ <;> (try simp [B_iff, B_not] at s15b) <;> try (refine ⟨fun s15c => ?_, fun s15c => ?_⟩ <;> (try simp [B_iff, B_not] at s15c) <;> try (refine ⟨fun s15d => ?_, fun s15d => ?_⟩ <;> (try simp [B_iff, B_not] at s15d) <;> try (refine ⟨fun s15e => ?_, fun s15e => ?_⟩ <;> (try simp [B_iff, B_not] at s15e) <;> try (refine ⟨fun s15f => ?_, fun s15f => ?_⟩ <;> (try simp [B_iff, B_not] at s15f) <;> try (refine ⟨fun s15g => ?_, fun s15g => ?_⟩ <;> (try simp [B_iff, B_not] at s15g))))))))
    | refine AW_condA (c := .tmp 27) ?_; simp [-List.getD_eq_getElem?_getD, -List.drop_one, ↓splitB_true, ↓splitB_false, go_sem]; try first | (refine ⟨?_, ?_⟩ <;> change AW _ _ _ _ _ _) | (refine ⟨fun c27 => ?_, fun c27 => ?_⟩ <;> (try simp [B_iff, B_not] at c27))
    | refine AW_condA (c := .tmp 57) ?_; simp [-List.getD_eq_getElem?_getD, -List.drop_one, ↓splitB_true, ↓splitB_false, go_sem]; try first | (refine ⟨?_, ?_⟩ <;> change AW _ _ _ _ _ _) | (refine ⟨fun c57 => ?_, fun c57 => ?_⟩ <;> (try simp [B_iff, B_not] at c57))
    | refine AW_condA (c := .tmp 70) ?_; simp [-List.getD_eq_getElem?_getD, -List.drop_one, ↓splitB_true, ↓splitB_false, go_sem]; try first | (refine ⟨?_, ?_⟩ <;> change AW _ _ _ _ _ _) | (refine ⟨fun c70 => ?_, fun c70 => ?_⟩ <;> (try simp [B_iff, B_not] at c70))
    | (refine AW_block ?_)
    | (refine AW_exit ?_; simp [-List.getD_eq_getElem?_getD, -List.drop_one, ↓splitB_true, ↓splitB_false, go_sem])
    | (refine AW_skip ?_; simp [-List.getD_eq_getElem?_getD, -List.drop_one, ↓splitB_true, ↓splitB_false, go_sem])
    | (refine AW_ret ?_; simp [-List.getD_eq_getElem?_getD, -List.drop_one, ↓splitB_true, ↓splitB_false, go_sem, Try.results7])
    | (intro hx; change AW _ _ _ _ _ _)
    | (refine ⟨?_, ?_⟩ <;> change AW _ _ _ _ _ _)
    | (intro hx; refine ⟨fun hs => ?_, fun hs => ?_⟩)
    | (refine ⟨fun hs => ?_, fun hs => ?_⟩)
    | (refine ⟨?_, fun hs => ?_⟩; change AW _ _ _ _ _ _)
    | (refine ⟨fun hs => ?_, ?_⟩; rotate_left; change AW _ _ _ _ _ _; rotate_left)))
end Go.Proofs.Ytlbbhkpjjciaiaa.Vm

