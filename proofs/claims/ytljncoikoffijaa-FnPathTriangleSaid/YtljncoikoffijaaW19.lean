/-
  FnPathTriangle: the walk of the law. No conditions.
-/
import Derived.Test.YtljncoikoffijaaE20
import Derived.Test.YtljncoikoffijaaB4
namespace Go.Proofs.Ytljncoikoffijaa.Vm
open Go
set_option linter.unusedVariables false
set_option linter.unusedSimpArgs false
set_option maxRecDepth 200000

theorem wpInts_pure (xs : List Int) (ys : List Int)  : Pure Try.prog 57 [li cI xs, li cI ys] (.bool (decide (xs = ys))) := by
  refine Pure.of_walk Try.func57 rfl (by simp [Try.f57]) (by simp [-List.drop_one, go_sem]) fun B hK => ?_
  (repeat' (first
    | refine AW_seq ?_
    | (refine AW_len 0 rfl fun hm => ?_); refine AW_region (id := 0) Γe36f_ok [] (by kernel_rfl) ?_; simp  [-List.getD_eq_getElem?_getD, -List.drop_one, ↓splitB_true, ↓splitB_false, go_sem]
    | refine AW_region (id := 1) Γe36f_ok [] (by kernel_rfl) ?_; simp  [-List.getD_eq_getElem?_getD, -List.drop_one, ↓splitB_true, ↓splitB_false, go_sem]
    | refine AW_region (id := 2) Γe36f_ok [] (by kernel_rfl) ?_; simp  [-List.getD_eq_getElem?_getD, -List.drop_one, ↓splitB_true, ↓splitB_false, go_sem]
    | refine AW_region (id := 3) Γe36f_ok [] (by kernel_rfl) ?_; simp  [-List.getD_eq_getElem?_getD, -List.drop_one, ↓splitB_true, ↓splitB_false, go_sem]
    | refine AW_region (id := 4) Γe36f_ok [] (by kernel_rfl) ?_; simp  [-List.getD_eq_getElem?_getD, -List.drop_one, ↓splitB_true, ↓splitB_false, go_sem]
    | (have cy : k < ys.length := by omega); refine AW_region_draw (id := 6) Γe36f_ok mixed [] [5] (by kernel_rfl) (by kernel_rfl) (by simp [-List.getD_eq_getElem?_getD, -List.drop_one, ↓splitB_true, ↓splitB_false, go_sem, c14, ne_nil c14, Nat.sub_pos_of_lt c14, cy, ne_nil cy, Nat.sub_pos_of_lt cy]) ?_; simp  [-List.getD_eq_getElem?_getD, -List.drop_one, ↓splitB_true, ↓splitB_false, go_sem, c14, ne_nil c14, Nat.sub_pos_of_lt c14, cy, ne_nil cy, Nat.sub_pos_of_lt cy]
    | refine AW_region (id := 7) Γe36f_ok [] (by kernel_rfl) ?_; simp  [-List.getD_eq_getElem?_getD, -List.drop_one, ↓splitB_true, ↓splitB_false, go_sem]
    | refine AW_region (id := 5) Γe36f_ok [] (by kernel_rfl) ?_; simp  [-List.getD_eq_getElem?_getD, -List.drop_one, ↓splitB_true, ↓splitB_false, go_sem, wrapS (k := k) (by omega)]
    | refine AW_region (id := 8) Γe36f_ok [] (by kernel_rfl) ?_; simp  [-List.getD_eq_getElem?_getD, -List.drop_one, ↓splitB_true, ↓splitB_false, go_sem]
    | refine AW_condA (c := .tmp 10) ?_; simp [-List.getD_eq_getElem?_getD, -List.drop_one, ↓splitB_true, ↓splitB_false, go_sem]; try first | (refine ⟨?_, ?_⟩ <;> change AW _ _ _ _ _ _) | (refine ⟨fun c10 => ?_, fun c10 => ?_⟩ <;> (try simp [B_iff, B_not] at c10))
    | refine AW_condA (c := .tmp 14) ?_; simp [-List.getD_eq_getElem?_getD, -List.drop_one, ↓splitB_true, ↓splitB_false, go_sem]; try first | (refine ⟨?_, ?_⟩ <;> change AW _ _ _ _ _ _) | (refine ⟨fun c14 => ?_, fun c14 => ?_⟩ <;> (try simp [B_iff, B_not] at c14))
    | refine AW_condA (c := .tmp 25) ?_; simp [-List.getD_eq_getElem?_getD, -List.drop_one, ↓splitB_true, ↓splitB_false, go_sem]; try first | (refine ⟨?_, ?_⟩ <;> change AW _ _ _ _ _ _) | (refine ⟨fun c25 => ?_, fun c25 => ?_⟩ <;> (try simp [B_iff, B_not] at c25))
    | (refine AW_block (id := 0) (AW_loop (ι := Nat) (fun k : Nat => ⟨(upd (upd (upd (fun _ => .any) 0 (li cI xs)) 1 (li cI ys)) 5 (.int .i64 k)), fun _ => none⟩) (fun k => k ≤ xs.length ∧ NoneTill (neAt xs ys) k) (fun k => xs.length - k) (0) ?_ ?_ ?_); exact ⟨Nat.zero_le _, .zero _⟩; ((repeat' (first | exact sub_noneH (by assumption) | exact sub_none | refine sub_upd ?_ ?_ | refine sub_noneE ?_)) <;> simp [-List.getD_eq_getElem?_getD, -List.drop_one, ↓splitB_true, ↓splitB_false, go_sem]); rintro k ⟨hk, ht⟩)
    | (refine ⟨k + 1, ⟨by omega, ht.succ (by simp [neAt]; first | exact c25 | (apply Prod.ext <;> simp_all; done) | (simp_all [Prod.ext_iff]; done) | simp_all)⟩, by first | omega | (simp; done) | (simp; omega), ?_⟩; ((repeat' (first | exact sub_noneH (by assumption) | exact sub_none | refine sub_upd ?_ ?_ | refine sub_noneE ?_)) <;> simp [-List.getD_eq_getElem?_getD, -List.drop_one, ↓splitB_true, ↓splitB_false, go_sem]))
    | (refine AW_block ?_)
    | (refine AW_exit ?_; simp [-List.getD_eq_getElem?_getD, -List.drop_one, ↓splitB_true, ↓splitB_false, go_sem])
    | (refine AW_skip ?_; simp [-List.getD_eq_getElem?_getD, -List.drop_one, ↓splitB_true, ↓splitB_false, go_sem])
    | (refine AW_ret ?_; simp [-List.getD_eq_getElem?_getD, -List.drop_one, ↓splitB_true, ↓splitB_false, go_sem, Try.results57])
    | (intro hx; change AW _ _ _ _ _ _)
    | (refine ⟨?_, ?_⟩ <;> change AW _ _ _ _ _ _)
    | (intro hx; refine ⟨fun hs => ?_, fun hs => ?_⟩)
    | (refine ⟨fun hs => ?_, fun hs => ?_⟩)
    | (refine ⟨?_, fun hs => ?_⟩; change AW _ _ _ _ _ _)
    | (refine ⟨fun hs => ?_, ?_⟩; rotate_left; change AW _ _ _ _ _ _; rotate_left)))
  all_goals (first
    | (rintro rfl; simp at c10; done)
    | (rintro rfl; simp at c25; done)
    | exact eq_of_none (by omega) ht (by omega)
    | skip)
noncomputable def wpInts_pureC : Con := .pure fun
  | [.list n_xs c_xs, .list n_ys c_ys] => ((Is cI n_xs c_xs) ∧ (Is cI n_ys c_ys), .bool (decide ((de cI c_xs) = (de cI c_ys))))
  | _ => (False, .any)
attribute [go_sem] wpInts_pureC
theorem wpInts_pureC_ok : ConOk Try.prog 57 wpInts_pureC := by
  refine ⟨callable Try.func57 (by decide) rfl, fun args h => ?_⟩
  revert h
  dsimp only
  split
  · intro h
    obtain ⟨⟨xs, rfl, rfl⟩, ⟨ys, rfl, rfl⟩⟩ := h
    try simp only [de_cat] at *
    exact ⟨wpInts_pure xs ys, by simp [go_sem]⟩
  · intro h
    exact h.elim
noncomputable def Γe37 : FuncId → Con := ext Γe36f 57 wpInts_pureC
attribute [go_sem] Γe37
theorem Γe37_ok : ∀ g, ConOk Try.prog g (Γe37 g) := ext_ok Γe36f_ok wpInts_pureC_ok

set_option maxHeartbeats 4000000 in
theorem lawFnPathTriangle (xs : List UInt8) (ys : List UInt8)  : Pure Try.prog 12 [li cY xs, li cY ys] (.bool true) := by
  refine Pure.of_walk Try.func12 rfl (by simp [Try.f12]) (by simp [-List.drop_one, go_sem]) fun B hK => ?_
  (repeat' (first
    | refine AW_seq ?_
    | (refine AW_len 1 rfl fun hm => ?_); refine AW_region (id := 0) Γe37_ok [] (by kernel_rfl) ?_; simp  [-List.getD_eq_getElem?_getD, -List.drop_one, ↓splitB_true, ↓splitB_false, go_sem]
    | refine AW_region (id := 1) Γe37_ok [16] (by kernel_rfl) ?_; simp  [-List.getD_eq_getElem?_getD, -List.drop_one, ↓splitB_true, ↓splitB_false, go_sem]; try (refine ⟨fun s1a => ?_, fun s1a => ?_⟩ <;> (try simp [B_iff, B_not] at s1a) <;> try (refine ⟨fun s1b => ?_, fun s1b => ?_⟩ <;> (try simp [B_iff, B_not] at s1b)))
    | refine AW_region (id := 2) Γe37_ok [] (by kernel_rfl) ?_; simp  [-List.getD_eq_getElem?_getD, -List.drop_one, ↓splitB_true, ↓splitB_false, go_sem]
    | refine AW_region (id := 3) Γe37_ok [] (by kernel_rfl) ?_; simp  [-List.getD_eq_getElem?_getD, -List.drop_one, ↓splitB_true, ↓splitB_false, go_sem]; try ((intro c3); (generalize DrawShortestPath_sel xs c3 = z at *); (obtain ⟨⟨ga, gb⟩, uu, ww⟩ := z); (refine AW_data hK 5 ?_); (simp [go_sem]))
    | refine AW_region (id := 4) Γe37_ok [] (by kernel_rfl) ?_; simp  [-List.getD_eq_getElem?_getD, -List.drop_one, ↓splitB_true, ↓splitB_false, go_sem]; try ((refine AW_data hK 8 ?_); (simp [go_sem]))
    | refine AW_region (id := 5) Γe37_ok [] (by kernel_rfl) ?_; simp  [-List.getD_eq_getElem?_getD, -List.drop_one, ↓splitB_true, ↓splitB_false, go_sem]; try ((refine AW_data hK 9 ?_); (simp [go_sem]); (cases hg : Vm.B (GraphOk ga gb)))
    | refine AW_region (id := 6) Γe37_ok [39] (by kernel_rfl) ?_; simp  [-List.getD_eq_getElem?_getD, -List.drop_one, ↓splitB_true, ↓splitB_false, go_sem, hg]; try (refine ⟨fun s6a => ?_, fun s6a => ?_⟩ <;> (try simp [B_iff, B_not] at s6a) <;> try (refine ⟨fun s6b => ?_, fun s6b => ?_⟩ <;> (try simp [B_iff, B_not] at s6b)))
    | refine AW_region (id := 7) Γe37_ok [] (by kernel_rfl) ?_; simp  [-List.getD_eq_getElem?_getD, -List.drop_one, ↓splitB_true, ↓splitB_false, go_sem]
    | ((have hG : GraphOk ga gb := (by rw [B_iff] at hg; exact hg)); (obtain ⟨g1, g2, g3, g4, g5⟩ := hG); (have hmod := Int.emod_lt_of_pos (ys.length : Int) (show (0 : Int) < ga.length by omega)); (have hmod0 := Int.emod_nonneg (ys.length : Int) (show (ga.length : Int) ≠ 0 by omega))); refine AW_region (id := 8) Γe37_ok [] (by kernel_rfl) ?_; simp  [-List.getD_eq_getElem?_getD, -List.drop_one, ↓splitB_true, ↓splitB_false, go_sem, (show ¬ (ga.length : Int) = 0 by omega), ne_nil (show 0 < ga.length by omega)]; try ((obtain ⟨vv, hvv⟩ : ∃ vv, (ys.length : Int).tmod ga.length = vv := ⟨_, rfl⟩); (rw [hvv]))
    | refine AW_region (id := 9) Γe37_ok [] (by kernel_rfl) ?_; simp  [-List.getD_eq_getElem?_getD, -List.drop_one, ↓splitB_true, ↓splitB_false, go_sem]; try ((refine AW_data hK 11 ?_); (simp [go_sem]))
    | refine AW_region (id := 10) Γe37_ok [] (by kernel_rfl) ?_; simp  [-List.getD_eq_getElem?_getD, -List.drop_one, ↓splitB_true, ↓splitB_false, go_sem]; try ((refine AW_data hK 12 ?_); (simp [go_sem]); (have l1 := spL_len ga gb uu vv); (have l2 := spL_len ga gb vv ww); (have l3 := spL_len ga gb uu ww); (have ht := tri ga gb uu vv ww))
    | refine AW_region (id := 11) Γe37_ok [64, 69, 73] (by kernel_rfl) ?_; simp  [-List.getD_eq_getElem?_getD, -List.drop_one, ↓splitB_true, ↓splitB_false, go_sem, wrap_in (x := ((spL ga gb uu vv).length : Int) + ((spL ga gb vv ww).length : Int)) (by omega) (by omega), wrap_in (x := ((spL ga gb uu vv).length : Int) + ((spL ga gb vv ww).length : Int) - 1) (by omega) (by omega)]; try (refine ⟨fun s11a => ?_, fun s11a => ?_⟩ <;> (try simp [B_iff, B_not] at s11a) <;> try (refine ⟨fun s11b => ?_, fun s11b => ?_⟩ <;> (try simp [B_iff, B_not] at s11b) <;> try (refine ⟨fun s11c => ?_, fun s11c => ?_⟩ <;> (try simp [B_iff, B_not] at s11c) <;> try (refine ⟨fun s11d => ?_, fun s11d => ?_⟩ <;> (try simp [B_iff, B_not] at s11d)))))
    | refine AW_condA (c := .tmp 20) ?_; simp [-List.getD_eq_getElem?_getD, -List.drop_one, ↓splitB_true, ↓splitB_false, go_sem]; try first | (refine ⟨?_, ?_⟩ <;> change AW _ _ _ _ _ _) | (refine ⟨fun c20 => ?_, fun c20 => ?_⟩ <;> (try simp [B_iff, B_not] at c20))
    | refine AW_condA (c := .tmp 43) ?_; simp [-List.getD_eq_getElem?_getD, -List.drop_one, ↓splitB_true, ↓splitB_false, go_sem]; try first | (refine ⟨?_, ?_⟩ <;> change AW _ _ _ _ _ _) | (refine ⟨fun c43 => ?_, fun c43 => ?_⟩ <;> (try simp [B_iff, B_not] at c43))
    | (refine AW_block ?_)
    | (refine AW_exit ?_; simp [-List.getD_eq_getElem?_getD, -List.drop_one, ↓splitB_true, ↓splitB_false, go_sem])
    | (refine AW_skip ?_; simp [-List.getD_eq_getElem?_getD, -List.drop_one, ↓splitB_true, ↓splitB_false, go_sem])
    | (refine AW_ret ?_; simp [-List.getD_eq_getElem?_getD, -List.drop_one, ↓splitB_true, ↓splitB_false, go_sem, Try.results12])
    | (intro hx; change AW _ _ _ _ _ _)
    | (refine ⟨?_, ?_⟩ <;> change AW _ _ _ _ _ _)
    | (intro hx; refine ⟨fun hs => ?_, fun hs => ?_⟩)
    | (refine ⟨fun hs => ?_, fun hs => ?_⟩)
    | (refine ⟨?_, fun hs => ?_⟩; change AW _ _ _ _ _ _)
    | (refine ⟨fun hs => ?_, ?_⟩; rotate_left; change AW _ _ _ _ _ _; rotate_left)))
  all_goals (first
    | (rcases ht with h | h | h; (exact absurd h (by assumption)); (exact absurd h (by assumption)); (obtain ⟨q1, q2, q3, q4, q5⟩ := h; first | omega | (exact absurd (by assumption) q3)))
    | skip)
end Go.Proofs.Ytljncoikoffijaa.Vm

