/-
  FnExactSuffixAt: the walk of the law. No conditions.
-/
import Derived.Test.YtlbbhkpjjciaiaaS4
namespace Go.Proofs.Ytlbbhkpjjciaiaa.Vm
open Go
set_option linter.unusedVariables false
set_option linter.unusedSimpArgs false
set_option maxRecDepth 200000

set_option maxHeartbeats 4000000 in
theorem lawSuffixAt (a : List Int) (b : List Int) (i : Int) (h4 : i ≤ 9223372036854775807) : Pure Try.prog 6 [.st [li cI a, li cI b], .int .i64 i] (.bool true) := by
  refine Pure.of_walk Try.func6 rfl (by simp [Try.f6]) (by simp [-List.drop_one, go_sem]) fun B hK => ?_
  cases hB : Vm.B (LasOk a b ∧ 0 ≤ i) <;> by_cases hi : i < (a.length : Int)
  all_goals (repeat' (first
    | refine AW_seq ?_
    | refine AW_region (id := 0) Γs22_ok [] (by kernel_rfl) ?_; simp  [-List.getD_eq_getElem?_getD, -List.drop_one, ↓splitB_true, ↓splitB_false, go_sem]; try (refine AW_data hK 2 ?_; simp [go_sem])
    | refine AW_region (id := 1) Γs22_ok [] (by kernel_rfl) ?_; simp  [-List.getD_eq_getElem?_getD, -List.drop_one, ↓splitB_true, ↓splitB_false, go_sem]
    | refine AW_region (id := 2) Γs22_ok [] (by kernel_rfl) ?_; simp  [-List.getD_eq_getElem?_getD, -List.drop_one, ↓splitB_true, ↓splitB_false, go_sem]
    | refine AW_region (id := 3) Γs22_ok [] (by kernel_rfl) ?_; simp  [-List.getD_eq_getElem?_getD, -List.drop_one, ↓splitB_true, ↓splitB_false, go_sem]
    | refine AW_region (id := 4) Γs22_ok [] (by kernel_rfl) ?_; simp  [-List.getD_eq_getElem?_getD, -List.drop_one, ↓splitB_true, ↓splitB_false, go_sem]
    | (have hab := szOf_le c20; have hla : a.length ≤ 1048576 := (by omega); have hlb : b.length ≤ 1048576 := (by omega); have q1 : (1 : Int) + a.length + b.length ≤ 1099511627776 := (by omega); have q2 : ¬ ((1 : Int) + a.length + b.length < 0) := (by omega); have q3 : (1 : Int) + ((a.length - i.toNat : Nat) : Int) + b.length ≤ 1099511627776 := (by omega); have q4 : ¬ ((1 : Int) + ((a.length - i.toNat : Nat) : Int) + b.length < 0) := (by omega); have q5 : (1 : Int) + (((b.length - turn a b i : Nat) : Int) + ((min (turn a b i) b.length : Nat) : Int)) ≤ 1099511627776 := (by omega); have q6 : ¬ ((1 : Int) + (((b.length - turn a b i : Nat) : Int) + ((min (turn a b i) b.length : Nat) : Int)) < 0) := (by omega)); refine AW_region (id := 5) Γs22_ok [] (by kernel_rfl) ?_; simp  [-List.getD_eq_getElem?_getD, -List.drop_one, ↓splitB_true, ↓splitB_false, go_sem, h4, hB, hi, hla, hlb]; try (refine AW_data hK 6 ?_; simp [go_sem])
    | refine AW_region (id := 6) Γs22_ok [] (by kernel_rfl) ?_; simp  [-List.getD_eq_getElem?_getD, -List.drop_one, ↓splitB_true, ↓splitB_false, go_sem, hla, hlb]; try (refine AW_box2 8 rfl fun p8 x1 x2 j1 j2 d1 d2 hp hx1 hx2 nx1 nx2 n12 => ?_; (clear hp hx1 hx2); (simp [go_sem]))
    | refine AW_region (id := 7) Γs22_ok [] (by kernel_rfl) ?_; simp  [-List.getD_eq_getElem?_getD, -List.drop_one, ↓splitB_true, ↓splitB_false, go_sem, h4, hB, hi, nx1, nx2, n12, Ne.symm nx1, Ne.symm nx2, Ne.symm n12]; try ((try refine AW_boxNil0 9 rfl ?_); (try refine AW_boxNil1 9 rfl ?_); (refine AW_box2 9 rfl fun p9 y1 y2 k1 k2 e1 e2 hp9 hy1 hy2 ny1 ny2 m12 => ?_); (obtain ⟨u1, u2, u3⟩ := fresh3 hp9); (obtain ⟨v1, v2, v3⟩ := fresh3 hy1); (obtain ⟨w1, w2, w3⟩ := fresh3 hy2); (clear hp9 hy1 hy2); (simp [go_sem, Ne.symm nx1, Ne.symm nx2, nx1, nx2, n12, Ne.symm n12]))
    | refine AW_region (id := 8) Γs22_ok [40] (by kernel_rfl) ?_; simp  [-List.getD_eq_getElem?_getD, -List.drop_one, ↓splitB_true, ↓splitB_false, go_sem, nx1, nx2, n12, ny1, ny2, m12, u1, u2, u3, v1, v2, v3, w1, w2, w3, Ne.symm nx1, Ne.symm nx2, Ne.symm n12, Ne.symm ny1, Ne.symm ny2, Ne.symm m12, Ne.symm u1, Ne.symm u2, Ne.symm u3, Ne.symm v1, Ne.symm v2, Ne.symm v3, Ne.symm w1, Ne.symm w2, Ne.symm w3, q1, q2, q3, q4, q5, q6, (show (0 : Int) ≤ 1 by omega), hla, hlb]; try (refine ⟨fun s8a => ?_, fun s8a => ?_⟩ <;> (try simp [B_iff, B_not] at s8a) <;> try (refine ⟨fun s8b => ?_, fun s8b => ?_⟩ <;> (try simp [B_iff, B_not] at s8b)))
    | refine AW_region (id := 9) Γs22_ok [] (by kernel_rfl) ?_; simp  [-List.getD_eq_getElem?_getD, -List.drop_one, ↓splitB_true, ↓splitB_false, go_sem]
    | refine AW_region_draw (id := 10) Γs22_ok mixed [] [] (by kernel_rfl) (by kernel_rfl) (by simp [-List.getD_eq_getElem?_getD, -List.drop_one, ↓splitB_true, ↓splitB_false, go_sem, nx1, nx2, n12, ny1, ny2, m12, u1, u2, u3, v1, v2, v3, w1, w2, w3, Ne.symm nx1, Ne.symm nx2, Ne.symm n12, Ne.symm ny1, Ne.symm ny2, Ne.symm m12, Ne.symm u1, Ne.symm u2, Ne.symm u3, Ne.symm v1, Ne.symm v2, Ne.symm v3, Ne.symm w1, Ne.symm w2, Ne.symm w3, q1, q2, q3, q4, q5, q6, (show (0 : Int) ≤ 1 by omega), hla, hlb]) ?_; simp  [-List.getD_eq_getElem?_getD, -List.drop_one, ↓splitB_true, ↓splitB_false, go_sem, nx1, nx2, n12, ny1, ny2, m12, u1, u2, u3, v1, v2, v3, w1, w2, w3, Ne.symm nx1, Ne.symm nx2, Ne.symm n12, Ne.symm ny1, Ne.symm ny2, Ne.symm m12, Ne.symm u1, Ne.symm u2, Ne.symm u3, Ne.symm v1, Ne.symm v2, Ne.symm v3, Ne.symm w1, Ne.symm w2, Ne.symm w3, q1, q2, q3, q4, q5, q6, (show (0 : Int) ≤ 1 by omega), hla, hlb]
    | refine AW_region (id := 11) Γs22_ok [] (by kernel_rfl) ?_; simp  [-List.getD_eq_getElem?_getD, -List.drop_one, ↓splitB_true, ↓splitB_false, go_sem]
    | refine AW_region (id := 12) Γs22_ok [] (by kernel_rfl) ?_; simp  [-List.getD_eq_getElem?_getD, -List.drop_one, ↓splitB_true, ↓splitB_false, go_sem]
    | refine AW_region (id := 13) Γs22_ok [] (by kernel_rfl) ?_; simp  [-List.getD_eq_getElem?_getD, -List.drop_one, ↓splitB_true, ↓splitB_false, go_sem, nx1, nx2, n12, ny1, ny2, m12, u1, u2, u3, v1, v2, v3, w1, w2, w3, Ne.symm nx1, Ne.symm nx2, Ne.symm n12, Ne.symm ny1, Ne.symm ny2, Ne.symm m12, Ne.symm u1, Ne.symm u2, Ne.symm u3, Ne.symm v1, Ne.symm v2, Ne.symm v3, Ne.symm w1, Ne.symm w2, Ne.symm w3, q1, q2, q3, q4, q5, q6, (show (0 : Int) ≤ 1 by omega), hla, hlb]
    | refine AW_region (id := 14) Γs22_ok [55, 61] (by kernel_rfl) ?_; simp  [-List.getD_eq_getElem?_getD, -List.drop_one, ↓splitB_true, ↓splitB_false, go_sem, nx1, nx2, n12, ny1, ny2, m12, u1, u2, u3, v1, v2, v3, w1, w2, w3, Ne.symm nx1, Ne.symm nx2, Ne.symm n12, Ne.symm ny1, Ne.symm ny2, Ne.symm m12, Ne.symm u1, Ne.symm u2, Ne.symm u3, Ne.symm v1, Ne.symm v2, Ne.symm v3, Ne.symm w1, Ne.symm w2, Ne.symm w3, q1, q2, q3, q4, q5, q6, (show (0 : Int) ≤ 1 by omega), hla, hlb]; try (refine ⟨fun s14a => ?_, fun s14a => ?_⟩ <;> (try simp [B_iff, B_not] at s14a) <;> try (refine ⟨fun s14b => ?_, fun s14b => ?_⟩ <;> (try simp [B_iff, B_not] at s14b) <;> try (refine ⟨fun s14c => ?_, fun s14c => ?_⟩ <;> (try simp [B_iff, B_not] at s14c))))
    | refine AW_region (id := 15) Γs22_ok [] (by kernel_rfl) ?_; simp  [-List.getD_eq_getElem?_getD, -List.drop_one, ↓splitB_true, ↓splitB_false, go_sem]
    | refine AW_region (id := 16) Γs22_ok [] (by kernel_rfl) ?_; simp  [-List.getD_eq_getElem?_getD, -List.drop_one, ↓splitB_true, ↓splitB_false, go_sem]
    | refine AW_region (id := 17) Γs22_ok [] (by kernel_rfl) ?_; simp  [-List.getD_eq_getElem?_getD, -List.drop_one, ↓splitB_true, ↓splitB_false, go_sem, nx1, nx2, n12, ny1, ny2, m12, u1, u2, u3, v1, v2, v3, w1, w2, w3, Ne.symm nx1, Ne.symm nx2, Ne.symm n12, Ne.symm ny1, Ne.symm ny2, Ne.symm m12, Ne.symm u1, Ne.symm u2, Ne.symm u3, Ne.symm v1, Ne.symm v2, Ne.symm v3, Ne.symm w1, Ne.symm w2, Ne.symm w3, q1, q2, q3, q4, q5, q6, (show (0 : Int) ≤ 1 by omega), hla, hlb]
    | refine AW_region (id := 18) Γs22_ok [] (by kernel_rfl) ?_; simp  [-List.getD_eq_getElem?_getD, -List.drop_one, ↓splitB_true, ↓splitB_false, go_sem]
    | refine AW_region (id := 19) Γs22_ok [] (by kernel_rfl) ?_; simp  [-List.getD_eq_getElem?_getD, -List.drop_one, ↓splitB_true, ↓splitB_false, go_sem, nx1, nx2, n12, ny1, ny2, m12, u1, u2, u3, v1, v2, v3, w1, w2, w3, Ne.symm nx1, Ne.symm nx2, Ne.symm n12, Ne.symm ny1, Ne.symm ny2, Ne.symm m12, Ne.symm u1, Ne.symm u2, Ne.symm u3, Ne.symm v1, Ne.symm v2, Ne.symm v3, Ne.symm w1, Ne.symm w2, Ne.symm w3, q1, q2, q3, q4, q5, q6, (show (0 : Int) ≤ 1 by omega), hla, hlb]
    | refine AW_region (id := 20) Γs22_ok [] (by kernel_rfl) ?_; simp  [-List.getD_eq_getElem?_getD, -List.drop_one, ↓splitB_true, ↓splitB_false, go_sem, q2, q4, q6]
    | refine AW_region (id := 21) Γs22_ok [] (by kernel_rfl) ?_; simp  [-List.getD_eq_getElem?_getD, -List.drop_one, ↓splitB_true, ↓splitB_false, go_sem]
    | refine AW_region (id := 22) Γs22_ok [] (by kernel_rfl) ?_; simp  [-List.getD_eq_getElem?_getD, -List.drop_one, ↓splitB_true, ↓splitB_false, go_sem]
    | refine AW_region (id := 23) Γs22_ok [] (by kernel_rfl) ?_; simp  [-List.getD_eq_getElem?_getD, -List.drop_one, ↓splitB_true, ↓splitB_false, go_sem]
    | refine AW_region (id := 24) Γs22_ok [] (by kernel_rfl) ?_; simp  [-List.getD_eq_getElem?_getD, -List.drop_one, ↓splitB_true, ↓splitB_false, go_sem, h4, hB, hi, hla, hlb]; try (refine AW_data hK 14 ?_; simp [go_sem])
    | refine AW_region (id := 25) Γs22_ok [88] (by kernel_rfl) ?_; simp  [-List.getD_eq_getElem?_getD, -List.drop_one, ↓splitB_true, ↓splitB_false, go_sem, nx1, nx2, n12, ny1, ny2, m12, u1, u2, u3, v1, v2, v3, w1, w2, w3, Ne.symm nx1, Ne.symm nx2, Ne.symm n12, Ne.symm ny1, Ne.symm ny2, Ne.symm m12, Ne.symm u1, Ne.symm u2, Ne.symm u3, Ne.symm v1, Ne.symm v2, Ne.symm v3, Ne.symm w1, Ne.symm w2, Ne.symm w3, q1, q2, q3, q4, q5, q6, (show (0 : Int) ≤ 1 by omega), hla, hlb]; try (refine ⟨fun s25a => ?_, fun s25a => ?_⟩ <;> (try simp [B_iff, B_not] at s25a) <;> try (refine ⟨fun s25b => ?_, fun s25b => ?_⟩ <;> (try simp [B_iff, B_not] at s25b)))
    | refine AW_region (id := 26) Γs22_ok [] (by kernel_rfl) ?_; simp  [-List.getD_eq_getElem?_getD, -List.drop_one, ↓splitB_true, ↓splitB_false, go_sem]
    | refine AW_region (id := 27) Γs22_ok [] (by kernel_rfl) ?_; simp  [-List.getD_eq_getElem?_getD, -List.drop_one, ↓splitB_true, ↓splitB_false, go_sem]
    | refine AW_region (id := 28) Γs22_ok [] (by kernel_rfl) ?_; simp  [-List.getD_eq_getElem?_getD, -List.drop_one, ↓splitB_true, ↓splitB_false, go_sem, nx1, nx2, n12, ny1, ny2, m12, u1, u2, u3, v1, v2, v3, w1, w2, w3, Ne.symm nx1, Ne.symm nx2, Ne.symm n12, Ne.symm ny1, Ne.symm ny2, Ne.symm m12, Ne.symm u1, Ne.symm u2, Ne.symm u3, Ne.symm v1, Ne.symm v2, Ne.symm v3, Ne.symm w1, Ne.symm w2, Ne.symm w3, q1, q2, q3, q4, q5, q6, (show (0 : Int) ≤ 1 by omega), hla, hlb]
    | refine AW_region (id := 29) Γs22_ok [] (by kernel_rfl) ?_; simp  [-List.getD_eq_getElem?_getD, -List.drop_one, ↓splitB_true, ↓splitB_false, go_sem, q2, q4, q6]
    | refine AW_region (id := 30) Γs22_ok [] (by kernel_rfl) ?_; simp  [-List.getD_eq_getElem?_getD, -List.drop_one, ↓splitB_true, ↓splitB_false, go_sem]
    | refine AW_region (id := 31) Γs22_ok [] (by kernel_rfl) ?_; simp  [-List.getD_eq_getElem?_getD, -List.drop_one, ↓splitB_true, ↓splitB_false, go_sem]
    | refine AW_region (id := 32) Γs22_ok [] (by kernel_rfl) ?_; simp  [-List.getD_eq_getElem?_getD, -List.drop_one, ↓splitB_true, ↓splitB_false, go_sem]
    | refine AW_region (id := 33) Γs22_ok [] (by kernel_rfl) ?_; simp  [-List.getD_eq_getElem?_getD, -List.drop_one, ↓splitB_true, ↓splitB_false, go_sem]
    | refine AW_condA (c := .tmp 20) ?_; simp [-List.getD_eq_getElem?_getD, -List.drop_one, ↓splitB_true, ↓splitB_false, go_sem]; try first | (refine ⟨?_, ?_⟩ <;> change AW _ _ _ _ _ _) | (refine ⟨fun c20 => ?_, fun c20 => ?_⟩ <;> (try simp [B_iff, B_not] at c20))
    | refine AW_condA (c := .tmp 44) ?_; simp [-List.getD_eq_getElem?_getD, -List.drop_one, ↓splitB_true, ↓splitB_false, go_sem]; try first | (refine ⟨?_, ?_⟩ <;> change AW _ _ _ _ _ _) | (refine ⟨fun c44 => ?_, fun c44 => ?_⟩ <;> (try simp [B_iff, B_not] at c44))
    | refine AW_condA (c := .tmp 49) ?_; simp [-List.getD_eq_getElem?_getD, -List.drop_one, ↓splitB_true, ↓splitB_false, go_sem]; try first | (refine ⟨?_, ?_⟩ <;> change AW _ _ _ _ _ _) | (refine ⟨fun c49 => ?_, fun c49 => ?_⟩ <;> (try simp [B_iff, B_not] at c49))
    | refine AW_condA (c := .tmp 65) ?_; simp [-List.getD_eq_getElem?_getD, -List.drop_one, ↓splitB_true, ↓splitB_false, go_sem]; try first | (refine ⟨?_, ?_⟩ <;> change AW _ _ _ _ _ _) | (refine ⟨fun c65 => ?_, fun c65 => ?_⟩ <;> (try simp [B_iff, B_not] at c65))
    | refine AW_condA (c := .tmp 73) ?_; simp [-List.getD_eq_getElem?_getD, -List.drop_one, ↓splitB_true, ↓splitB_false, go_sem]; try first | (refine ⟨?_, ?_⟩ <;> change AW _ _ _ _ _ _) | (refine ⟨fun c73 => ?_, fun c73 => ?_⟩ <;> (try simp [B_iff, B_not] at c73))
    | refine AW_condA (c := .tmp 76) ?_; simp [-List.getD_eq_getElem?_getD, -List.drop_one, ↓splitB_true, ↓splitB_false, go_sem]; try first | (refine ⟨?_, ?_⟩ <;> change AW _ _ _ _ _ _) | (refine ⟨fun c76 => ?_, fun c76 => ?_⟩ <;> (try simp [B_iff, B_not] at c76))
    | refine AW_condA (c := .tmp 92) ?_; simp [-List.getD_eq_getElem?_getD, -List.drop_one, ↓splitB_true, ↓splitB_false, go_sem]; try first | (refine ⟨?_, ?_⟩ <;> change AW _ _ _ _ _ _) | (refine ⟨fun c92 => ?_, fun c92 => ?_⟩ <;> (try simp [B_iff, B_not] at c92))
    | refine AW_condA (c := .tmp 97) ?_; simp [-List.getD_eq_getElem?_getD, -List.drop_one, ↓splitB_true, ↓splitB_false, go_sem]; try first | (refine ⟨?_, ?_⟩ <;> change AW _ _ _ _ _ _) | (refine ⟨fun c97 => ?_, fun c97 => ?_⟩ <;> (try simp [B_iff, B_not] at c97))
    | refine AW_condA (c := .tmp 100) ?_; simp [-List.getD_eq_getElem?_getD, -List.drop_one, ↓splitB_true, ↓splitB_false, go_sem]; try first | (refine ⟨?_, ?_⟩ <;> change AW _ _ _ _ _ _) | (refine ⟨fun c100 => ?_, fun c100 => ?_⟩ <;> (try simp [B_iff, B_not] at c100))
    | (refine AW_block ?_)
    | (refine AW_exit ?_; simp [-List.getD_eq_getElem?_getD, -List.drop_one, ↓splitB_true, ↓splitB_false, go_sem])
    | (refine AW_skip ?_; simp [-List.getD_eq_getElem?_getD, -List.drop_one, ↓splitB_true, ↓splitB_false, go_sem])
    | (refine AW_ret ?_; simp [-List.getD_eq_getElem?_getD, -List.drop_one, ↓splitB_true, ↓splitB_false, go_sem, Try.results6])
    | (intro hx; change AW _ _ _ _ _ _)
    | (refine ⟨?_, ?_⟩ <;> change AW _ _ _ _ _ _)
    | (intro hx; refine ⟨fun hs => ?_, fun hs => ?_⟩)
    | (refine ⟨fun hs => ?_, fun hs => ?_⟩)
    | (refine ⟨?_, fun hs => ?_⟩; change AW _ _ _ _ _ _)
    | (refine ⟨fun hs => ?_, ?_⟩; rotate_left; change AW _ _ _ _ _ _; rotate_left)))
end Go.Proofs.Ytlbbhkpjjciaiaa.Vm

