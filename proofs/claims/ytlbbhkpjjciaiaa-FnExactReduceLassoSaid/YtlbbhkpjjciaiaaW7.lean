/-
  FnExactReduceLasso: the walk of the law. No conditions.
-/
import Derived.Test.YtlbbhkpjjciaiaaS10
namespace Go.Proofs.Ytlbbhkpjjciaiaa.Vm
open Go
set_option linter.unusedVariables false
set_option linter.unusedSimpArgs false
set_option maxRecDepth 200000

theorem redS_le (a b : List Int) : (redS a b).length ≤ a.length := by unfold redS; simp
theorem lp_le (l : List Int) : ∀ t, (lp l t).length ≤ max l.length 1
  | 0 => by simp only [lp]; omega
  | t + 1 => by have := lp_le l t; simp only [lp, rotR, List.length_cons, List.length_take]; omega
theorem redL_le (a b : List Int) : (redL a b).length ≤ b.length + 1 := by
  have := lp_le (b.take (period b)) (back a (b.take (period b)))
  have h2 : (b.take (period b)).length ≤ b.length := by simp; omega
  unfold redL; omega

set_option maxHeartbeats 4000000 in
theorem lawReduceLasso (a : List Int) (b : List Int)  : Pure Try.prog 10 [.st [li cI a, li cI b]] (.bool true) := by
  refine Pure.of_walk Try.func10 rfl (by simp [Try.f10]) (by simp [-List.drop_one, go_sem]) fun B hK => ?_
  cases hB : Vm.B (LasOk a b)
  all_goals (repeat' (first
    | refine AW_seq ?_
    | refine AW_region (id := 0) Γs35_ok [] (by kernel_rfl) ?_; simp  [-List.getD_eq_getElem?_getD, -List.drop_one, ↓splitB_true, ↓splitB_false, go_sem]; try (refine AW_data hK 1 ?_; simp [go_sem])
    | refine AW_region (id := 1) Γs35_ok [] (by kernel_rfl) ?_; simp  [-List.getD_eq_getElem?_getD, -List.drop_one, ↓splitB_true, ↓splitB_false, go_sem]
    | refine AW_region (id := 2) Γs35_ok [] (by kernel_rfl) ?_; simp  [-List.getD_eq_getElem?_getD, -List.drop_one, ↓splitB_true, ↓splitB_false, go_sem]
    | refine AW_region (id := 3) Γs35_ok [] (by kernel_rfl) ?_; simp  [-List.getD_eq_getElem?_getD, -List.drop_one, ↓splitB_true, ↓splitB_false, go_sem]
    | refine AW_region (id := 4) Γs35_ok [] (by kernel_rfl) ?_; simp  [-List.getD_eq_getElem?_getD, -List.drop_one, ↓splitB_true, ↓splitB_false, go_sem]
    | (have hab := szOf_le c18; have hla : a.length ≤ 1048576 := (by omega); have hlb : b.length ≤ 1048576 := (by omega); have z1 := redS_le a b; have z2 := redL_le a b; have q1 : (1 : Int) + a.length + b.length ≤ 1099511627776 := (by omega); have q2 : ¬ ((1 : Int) + a.length + b.length < 0) := (by omega); have q3 : (1 : Int) + (redS a b).length + (redL a b).length ≤ 1099511627776 := (by omega); have q4 : ¬ ((1 : Int) + (redS a b).length + (redL a b).length < 0) := (by omega)); refine AW_region (id := 5) Γs35_ok [] (by kernel_rfl) ?_; simp  [-List.getD_eq_getElem?_getD, -List.drop_one, ↓splitB_true, ↓splitB_false, go_sem, hB, hla, hlb]; try (refine AW_data hK 4 ?_; simp [go_sem])
    | refine AW_region (id := 6) Γs35_ok [] (by kernel_rfl) ?_; simp  [-List.getD_eq_getElem?_getD, -List.drop_one, ↓splitB_true, ↓splitB_false, go_sem, hla, hlb]; try (refine AW_box2 6 rfl fun p8 x1 x2 j1 j2 d1 d2 hp hx1 hx2 nx1 nx2 n12 => ?_; (clear hp hx1 hx2); (simp [go_sem]))
    | refine AW_region (id := 7) Γs35_ok [] (by kernel_rfl) ?_; simp  [-List.getD_eq_getElem?_getD, -List.drop_one, ↓splitB_true, ↓splitB_false, go_sem, hB, nx1, nx2, n12, Ne.symm nx1, Ne.symm nx2, Ne.symm n12]; try ((try refine AW_boxNil0 7 rfl ?_); (try refine AW_boxNil1 7 rfl ?_); (refine AW_box2 7 rfl fun p9 y1 y2 k1 k2 e1 e2 hp9 hy1 hy2 ny1 ny2 m12 => ?_); (obtain ⟨u1, u2, u3⟩ := fresh3 hp9); (obtain ⟨v1, v2, v3⟩ := fresh3 hy1); (obtain ⟨w1, w2, w3⟩ := fresh3 hy2); (clear hp9 hy1 hy2); (simp [go_sem, Ne.symm nx1, Ne.symm nx2, nx1, nx2, n12, Ne.symm n12]))
    | refine AW_region (id := 8) Γs35_ok [36] (by kernel_rfl) ?_; simp  [-List.getD_eq_getElem?_getD, -List.drop_one, ↓splitB_true, ↓splitB_false, go_sem, nx1, nx2, n12, ny1, ny2, m12, u1, u2, u3, v1, v2, v3, w1, w2, w3, Ne.symm nx1, Ne.symm nx2, Ne.symm n12, Ne.symm ny1, Ne.symm ny2, Ne.symm m12, Ne.symm u1, Ne.symm u2, Ne.symm u3, Ne.symm v1, Ne.symm v2, Ne.symm v3, Ne.symm w1, Ne.symm w2, Ne.symm w3, q1, q2, q3, q4, (show (0 : Int) ≤ 1 by omega), hla, hlb]; try (refine ⟨fun s8a => ?_, fun s8a => ?_⟩ <;> (try simp [B_iff, B_not] at s8a) <;> try (refine ⟨fun s8b => ?_, fun s8b => ?_⟩ <;> (try simp [B_iff, B_not] at s8b)))
    | refine AW_region (id := 9) Γs35_ok [] (by kernel_rfl) ?_; simp  [-List.getD_eq_getElem?_getD, -List.drop_one, ↓splitB_true, ↓splitB_false, go_sem]
    | refine AW_region_draw (id := 10) Γs35_ok mixed [] [] (by kernel_rfl) (by kernel_rfl) (by simp [-List.getD_eq_getElem?_getD, -List.drop_one, ↓splitB_true, ↓splitB_false, go_sem, nx1, nx2, n12, ny1, ny2, m12, u1, u2, u3, v1, v2, v3, w1, w2, w3, Ne.symm nx1, Ne.symm nx2, Ne.symm n12, Ne.symm ny1, Ne.symm ny2, Ne.symm m12, Ne.symm u1, Ne.symm u2, Ne.symm u3, Ne.symm v1, Ne.symm v2, Ne.symm v3, Ne.symm w1, Ne.symm w2, Ne.symm w3, q1, q2, q3, q4, (show (0 : Int) ≤ 1 by omega), hla, hlb]) ?_; simp  [-List.getD_eq_getElem?_getD, -List.drop_one, ↓splitB_true, ↓splitB_false, go_sem, nx1, nx2, n12, ny1, ny2, m12, u1, u2, u3, v1, v2, v3, w1, w2, w3, Ne.symm nx1, Ne.symm nx2, Ne.symm n12, Ne.symm ny1, Ne.symm ny2, Ne.symm m12, Ne.symm u1, Ne.symm u2, Ne.symm u3, Ne.symm v1, Ne.symm v2, Ne.symm v3, Ne.symm w1, Ne.symm w2, Ne.symm w3, q1, q2, q3, q4, (show (0 : Int) ≤ 1 by omega), hla, hlb]
    | refine AW_region (id := 11) Γs35_ok [] (by kernel_rfl) ?_; simp  [-List.getD_eq_getElem?_getD, -List.drop_one, ↓splitB_true, ↓splitB_false, go_sem]
    | refine AW_region (id := 12) Γs35_ok [] (by kernel_rfl) ?_; simp  [-List.getD_eq_getElem?_getD, -List.drop_one, ↓splitB_true, ↓splitB_false, go_sem]
    | refine AW_region (id := 13) Γs35_ok [] (by kernel_rfl) ?_; simp  [-List.getD_eq_getElem?_getD, -List.drop_one, ↓splitB_true, ↓splitB_false, go_sem, nx1, nx2, n12, ny1, ny2, m12, u1, u2, u3, v1, v2, v3, w1, w2, w3, Ne.symm nx1, Ne.symm nx2, Ne.symm n12, Ne.symm ny1, Ne.symm ny2, Ne.symm m12, Ne.symm u1, Ne.symm u2, Ne.symm u3, Ne.symm v1, Ne.symm v2, Ne.symm v3, Ne.symm w1, Ne.symm w2, Ne.symm w3, q1, q2, q3, q4, (show (0 : Int) ≤ 1 by omega), hla, hlb]
    | refine AW_region (id := 14) Γs35_ok [51, 57] (by kernel_rfl) ?_; simp  [-List.getD_eq_getElem?_getD, -List.drop_one, ↓splitB_true, ↓splitB_false, go_sem, nx1, nx2, n12, ny1, ny2, m12, u1, u2, u3, v1, v2, v3, w1, w2, w3, Ne.symm nx1, Ne.symm nx2, Ne.symm n12, Ne.symm ny1, Ne.symm ny2, Ne.symm m12, Ne.symm u1, Ne.symm u2, Ne.symm u3, Ne.symm v1, Ne.symm v2, Ne.symm v3, Ne.symm w1, Ne.symm w2, Ne.symm w3, q1, q2, q3, q4, (show (0 : Int) ≤ 1 by omega), hla, hlb]; try (refine ⟨fun s14a => ?_, fun s14a => ?_⟩ <;> (try simp [B_iff, B_not] at s14a) <;> try (refine ⟨fun s14b => ?_, fun s14b => ?_⟩ <;> (try simp [B_iff, B_not] at s14b) <;> try (refine ⟨fun s14c => ?_, fun s14c => ?_⟩ <;> (try simp [B_iff, B_not] at s14c))))
    | refine AW_region (id := 15) Γs35_ok [] (by kernel_rfl) ?_; simp  [-List.getD_eq_getElem?_getD, -List.drop_one, ↓splitB_true, ↓splitB_false, go_sem]
    | refine AW_region (id := 16) Γs35_ok [] (by kernel_rfl) ?_; simp  [-List.getD_eq_getElem?_getD, -List.drop_one, ↓splitB_true, ↓splitB_false, go_sem]
    | refine AW_region (id := 17) Γs35_ok [] (by kernel_rfl) ?_; simp  [-List.getD_eq_getElem?_getD, -List.drop_one, ↓splitB_true, ↓splitB_false, go_sem, nx1, nx2, n12, ny1, ny2, m12, u1, u2, u3, v1, v2, v3, w1, w2, w3, Ne.symm nx1, Ne.symm nx2, Ne.symm n12, Ne.symm ny1, Ne.symm ny2, Ne.symm m12, Ne.symm u1, Ne.symm u2, Ne.symm u3, Ne.symm v1, Ne.symm v2, Ne.symm v3, Ne.symm w1, Ne.symm w2, Ne.symm w3, q1, q2, q3, q4, (show (0 : Int) ≤ 1 by omega), hla, hlb]
    | refine AW_region (id := 18) Γs35_ok [] (by kernel_rfl) ?_; simp  [-List.getD_eq_getElem?_getD, -List.drop_one, ↓splitB_true, ↓splitB_false, go_sem]
    | refine AW_region (id := 19) Γs35_ok [] (by kernel_rfl) ?_; simp  [-List.getD_eq_getElem?_getD, -List.drop_one, ↓splitB_true, ↓splitB_false, go_sem, nx1, nx2, n12, ny1, ny2, m12, u1, u2, u3, v1, v2, v3, w1, w2, w3, Ne.symm nx1, Ne.symm nx2, Ne.symm n12, Ne.symm ny1, Ne.symm ny2, Ne.symm m12, Ne.symm u1, Ne.symm u2, Ne.symm u3, Ne.symm v1, Ne.symm v2, Ne.symm v3, Ne.symm w1, Ne.symm w2, Ne.symm w3, q1, q2, q3, q4, (show (0 : Int) ≤ 1 by omega), hla, hlb]
    | refine AW_region (id := 20) Γs35_ok [] (by kernel_rfl) ?_; simp  [-List.getD_eq_getElem?_getD, -List.drop_one, ↓splitB_true, ↓splitB_false, go_sem, q2, q4]
    | refine AW_region (id := 21) Γs35_ok [] (by kernel_rfl) ?_; simp  [-List.getD_eq_getElem?_getD, -List.drop_one, ↓splitB_true, ↓splitB_false, go_sem]
    | refine AW_region (id := 22) Γs35_ok [] (by kernel_rfl) ?_; simp  [-List.getD_eq_getElem?_getD, -List.drop_one, ↓splitB_true, ↓splitB_false, go_sem]
    | refine AW_region (id := 23) Γs35_ok [] (by kernel_rfl) ?_; simp  [-List.getD_eq_getElem?_getD, -List.drop_one, ↓splitB_true, ↓splitB_false, go_sem]
    | refine AW_region (id := 24) Γs35_ok [] (by kernel_rfl) ?_; simp  [-List.getD_eq_getElem?_getD, -List.drop_one, ↓splitB_true, ↓splitB_false, go_sem, hB, hla, hlb]; try (refine AW_data hK 12 ?_; simp [go_sem])
    | refine AW_region (id := 25) Γs35_ok [83] (by kernel_rfl) ?_; simp  [-List.getD_eq_getElem?_getD, -List.drop_one, ↓splitB_true, ↓splitB_false, go_sem, nx1, nx2, n12, ny1, ny2, m12, u1, u2, u3, v1, v2, v3, w1, w2, w3, Ne.symm nx1, Ne.symm nx2, Ne.symm n12, Ne.symm ny1, Ne.symm ny2, Ne.symm m12, Ne.symm u1, Ne.symm u2, Ne.symm u3, Ne.symm v1, Ne.symm v2, Ne.symm v3, Ne.symm w1, Ne.symm w2, Ne.symm w3, q1, q2, q3, q4, (show (0 : Int) ≤ 1 by omega), hla, hlb]; try (refine ⟨fun s25a => ?_, fun s25a => ?_⟩ <;> (try simp [B_iff, B_not] at s25a) <;> try (refine ⟨fun s25b => ?_, fun s25b => ?_⟩ <;> (try simp [B_iff, B_not] at s25b)))
    | refine AW_region (id := 26) Γs35_ok [] (by kernel_rfl) ?_; simp  [-List.getD_eq_getElem?_getD, -List.drop_one, ↓splitB_true, ↓splitB_false, go_sem]
    | refine AW_region (id := 27) Γs35_ok [] (by kernel_rfl) ?_; simp  [-List.getD_eq_getElem?_getD, -List.drop_one, ↓splitB_true, ↓splitB_false, go_sem]
    | refine AW_region (id := 28) Γs35_ok [] (by kernel_rfl) ?_; simp  [-List.getD_eq_getElem?_getD, -List.drop_one, ↓splitB_true, ↓splitB_false, go_sem, nx1, nx2, n12, ny1, ny2, m12, u1, u2, u3, v1, v2, v3, w1, w2, w3, Ne.symm nx1, Ne.symm nx2, Ne.symm n12, Ne.symm ny1, Ne.symm ny2, Ne.symm m12, Ne.symm u1, Ne.symm u2, Ne.symm u3, Ne.symm v1, Ne.symm v2, Ne.symm v3, Ne.symm w1, Ne.symm w2, Ne.symm w3, q1, q2, q3, q4, (show (0 : Int) ≤ 1 by omega), hla, hlb]
    | refine AW_region (id := 29) Γs35_ok [] (by kernel_rfl) ?_; simp  [-List.getD_eq_getElem?_getD, -List.drop_one, ↓splitB_true, ↓splitB_false, go_sem, q2, q4]
    | refine AW_region (id := 30) Γs35_ok [] (by kernel_rfl) ?_; simp  [-List.getD_eq_getElem?_getD, -List.drop_one, ↓splitB_true, ↓splitB_false, go_sem]
    | refine AW_region (id := 31) Γs35_ok [] (by kernel_rfl) ?_; simp  [-List.getD_eq_getElem?_getD, -List.drop_one, ↓splitB_true, ↓splitB_false, go_sem]
    | refine AW_region (id := 32) Γs35_ok [] (by kernel_rfl) ?_; simp  [-List.getD_eq_getElem?_getD, -List.drop_one, ↓splitB_true, ↓splitB_false, go_sem]
    | refine AW_region (id := 33) Γs35_ok [] (by kernel_rfl) ?_; simp  [-List.getD_eq_getElem?_getD, -List.drop_one, ↓splitB_true, ↓splitB_false, go_sem]
    | refine AW_condA (c := .tmp 18) ?_; simp [-List.getD_eq_getElem?_getD, -List.drop_one, ↓splitB_true, ↓splitB_false, go_sem]; try first | (refine ⟨?_, ?_⟩ <;> change AW _ _ _ _ _ _) | (refine ⟨fun c18 => ?_, fun c18 => ?_⟩ <;> (try simp [B_iff, B_not] at c18))
    | refine AW_condA (c := .tmp 40) ?_; simp [-List.getD_eq_getElem?_getD, -List.drop_one, ↓splitB_true, ↓splitB_false, go_sem]; try first | (refine ⟨?_, ?_⟩ <;> change AW _ _ _ _ _ _) | (refine ⟨fun c40 => ?_, fun c40 => ?_⟩ <;> (try simp [B_iff, B_not] at c40))
    | refine AW_condA (c := .tmp 45) ?_; simp [-List.getD_eq_getElem?_getD, -List.drop_one, ↓splitB_true, ↓splitB_false, go_sem]; try first | (refine ⟨?_, ?_⟩ <;> change AW _ _ _ _ _ _) | (refine ⟨fun c45 => ?_, fun c45 => ?_⟩ <;> (try simp [B_iff, B_not] at c45))
    | refine AW_condA (c := .tmp 61) ?_; simp [-List.getD_eq_getElem?_getD, -List.drop_one, ↓splitB_true, ↓splitB_false, go_sem]; try first | (refine ⟨?_, ?_⟩ <;> change AW _ _ _ _ _ _) | (refine ⟨fun c61 => ?_, fun c61 => ?_⟩ <;> (try simp [B_iff, B_not] at c61))
    | refine AW_condA (c := .tmp 69) ?_; simp [-List.getD_eq_getElem?_getD, -List.drop_one, ↓splitB_true, ↓splitB_false, go_sem]; try first | (refine ⟨?_, ?_⟩ <;> change AW _ _ _ _ _ _) | (refine ⟨fun c69 => ?_, fun c69 => ?_⟩ <;> (try simp [B_iff, B_not] at c69))
    | refine AW_condA (c := .tmp 72) ?_; simp [-List.getD_eq_getElem?_getD, -List.drop_one, ↓splitB_true, ↓splitB_false, go_sem]; try first | (refine ⟨?_, ?_⟩ <;> change AW _ _ _ _ _ _) | (refine ⟨fun c72 => ?_, fun c72 => ?_⟩ <;> (try simp [B_iff, B_not] at c72))
    | refine AW_condA (c := .tmp 87) ?_; simp [-List.getD_eq_getElem?_getD, -List.drop_one, ↓splitB_true, ↓splitB_false, go_sem]; try first | (refine ⟨?_, ?_⟩ <;> change AW _ _ _ _ _ _) | (refine ⟨fun c87 => ?_, fun c87 => ?_⟩ <;> (try simp [B_iff, B_not] at c87))
    | refine AW_condA (c := .tmp 92) ?_; simp [-List.getD_eq_getElem?_getD, -List.drop_one, ↓splitB_true, ↓splitB_false, go_sem]; try first | (refine ⟨?_, ?_⟩ <;> change AW _ _ _ _ _ _) | (refine ⟨fun c92 => ?_, fun c92 => ?_⟩ <;> (try simp [B_iff, B_not] at c92))
    | refine AW_condA (c := .tmp 95) ?_; simp [-List.getD_eq_getElem?_getD, -List.drop_one, ↓splitB_true, ↓splitB_false, go_sem]; try first | (refine ⟨?_, ?_⟩ <;> change AW _ _ _ _ _ _) | (refine ⟨fun c95 => ?_, fun c95 => ?_⟩ <;> (try simp [B_iff, B_not] at c95))
    | (refine AW_block ?_)
    | (refine AW_exit ?_; simp [-List.getD_eq_getElem?_getD, -List.drop_one, ↓splitB_true, ↓splitB_false, go_sem])
    | (refine AW_skip ?_; simp [-List.getD_eq_getElem?_getD, -List.drop_one, ↓splitB_true, ↓splitB_false, go_sem])
    | (refine AW_ret ?_; simp [-List.getD_eq_getElem?_getD, -List.drop_one, ↓splitB_true, ↓splitB_false, go_sem, Try.results10])
    | (intro hx; change AW _ _ _ _ _ _)
    | (refine ⟨?_, ?_⟩ <;> change AW _ _ _ _ _ _)
    | (intro hx; refine ⟨fun hs => ?_, fun hs => ?_⟩)
    | (refine ⟨fun hs => ?_, fun hs => ?_⟩)
    | (refine ⟨?_, fun hs => ?_⟩; change AW _ _ _ _ _ _)
    | (refine ⟨fun hs => ?_, ?_⟩; rotate_left; change AW _ _ _ _ _ _; rotate_left)))
end Go.Proofs.Ytlbbhkpjjciaiaa.Vm

