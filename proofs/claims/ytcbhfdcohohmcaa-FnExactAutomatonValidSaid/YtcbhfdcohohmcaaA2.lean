/-
  AutomatonSame, both ways. No conditions.
-/
import Derived.Test.YtcbhfdcohohmcaaA1
namespace Go.Proofs.Ytcbhfdcohohmcaa.Vm
open Go
set_option linter.unusedVariables false
set_option linter.unusedSimpArgs false
set_option maxRecDepth 200000

theorem st4_tr : St4 Try.prog 55 := by
  refine ⟨by kernel_rfl, fun a b c d a' b' c' d' w => ?_⟩
  have hI := Try.underlying3
  have hS : Try.prog.underlying 55 = some (.struct (Try.prog.fieldsOf 55)) := by kernel_rfl
  have hp : Try.prog.stoodInHeld 55 = false := by kernel_rfl
  rw [show (10000 : Nat) = 9999 + 1 from rfl, run_equalIn_agg w 9999 _ _ _ hS hp]
  have hz : ∀ w, (sizeOf 3).run Try.prog w = .ok 1 w := run_size (P := Try.prog) (ty3)
  have ha : ∀ w, (isAgg 3).run Try.prog w = .ok false w := run_agg (P := Try.prog) (ty3)
  have hf : (Try.prog.fieldsOf 55).toList.map (fun f => (f.name, f.type, f.offset)) = [("From", 3, 0), ("Care", 3, 1), ("Value", 3, 2), ("To", 3, 3)] := by kernel_rfl
  simp only [Program.fieldsOf, Try.underlying55]
  simp [Op.eqFields, part, ha, run_equalIn_int w 9998 _ _ _ _ _ hI]
  by_cases h1 : a = a' <;> by_cases h2 : b = b' <;> by_cases h3 : c = c' <;> by_cases h4 : d = d' <;> simp [h1, h2, h3, h4]
@[go_sem] theorem st4_on : St4 Try.prog 55 = True := eq_true st4_tr

theorem l2Ints_pure (xs : List Int) (ys : List Int)  : Pure Try.prog 32 [li cI xs, li cI ys] (.bool (decide (xs = ys))) := by
  refine Pure.of_walk Try.func32 rfl (by simp [Try.f32]) (by simp [-List.drop_one, go_sem]) fun B hK => ?_
  (repeat' (first
    | refine AW_seq ?_
    | (refine AW_len 0 rfl fun hm => ?_); refine AW_region (id := 0) Γa11_ok [] (by kernel_rfl) ?_; simp  [-List.getD_eq_getElem?_getD, -List.drop_one, ↓splitB_true, ↓splitB_false, go_sem]
    | refine AW_region (id := 1) Γa11_ok [] (by kernel_rfl) ?_; simp  [-List.getD_eq_getElem?_getD, -List.drop_one, ↓splitB_true, ↓splitB_false, go_sem]
    | refine AW_region (id := 2) Γa11_ok [] (by kernel_rfl) ?_; simp  [-List.getD_eq_getElem?_getD, -List.drop_one, ↓splitB_true, ↓splitB_false, go_sem]
    | refine AW_region (id := 3) Γa11_ok [] (by kernel_rfl) ?_; simp  [-List.getD_eq_getElem?_getD, -List.drop_one, ↓splitB_true, ↓splitB_false, go_sem]
    | refine AW_region (id := 4) Γa11_ok [] (by kernel_rfl) ?_; simp  [-List.getD_eq_getElem?_getD, -List.drop_one, ↓splitB_true, ↓splitB_false, go_sem]
    | (have cy : k < ys.length := by omega); refine AW_region_draw (id := 6) Γa11_ok mixed [] [5] (by kernel_rfl) (by kernel_rfl) (by simp [-List.getD_eq_getElem?_getD, -List.drop_one, ↓splitB_true, ↓splitB_false, go_sem, c14, ne_nil c14, Nat.sub_pos_of_lt c14, cy, ne_nil cy, Nat.sub_pos_of_lt cy]) ?_; simp  [-List.getD_eq_getElem?_getD, -List.drop_one, ↓splitB_true, ↓splitB_false, go_sem, c14, ne_nil c14, Nat.sub_pos_of_lt c14, cy, ne_nil cy, Nat.sub_pos_of_lt cy]
    | refine AW_region (id := 7) Γa11_ok [] (by kernel_rfl) ?_; simp  [-List.getD_eq_getElem?_getD, -List.drop_one, ↓splitB_true, ↓splitB_false, go_sem]
    | refine AW_region (id := 5) Γa11_ok [] (by kernel_rfl) ?_; simp  [-List.getD_eq_getElem?_getD, -List.drop_one, ↓splitB_true, ↓splitB_false, go_sem, wrapS (k := k) (by omega)]
    | refine AW_region (id := 8) Γa11_ok [] (by kernel_rfl) ?_; simp  [-List.getD_eq_getElem?_getD, -List.drop_one, ↓splitB_true, ↓splitB_false, go_sem]
    | refine AW_condA (c := .tmp 10) ?_; simp [-List.getD_eq_getElem?_getD, -List.drop_one, ↓splitB_true, ↓splitB_false, go_sem]; try (refine ⟨fun c10 => ?_, fun c10 => ?_⟩ <;> (try simp [B_iff, B_not] at c10))
    | refine AW_condA (c := .tmp 14) ?_; simp [-List.getD_eq_getElem?_getD, -List.drop_one, ↓splitB_true, ↓splitB_false, go_sem]; try (refine ⟨fun c14 => ?_, fun c14 => ?_⟩ <;> (try simp [B_iff, B_not] at c14))
    | refine AW_condA (c := .tmp 25) ?_; simp [-List.getD_eq_getElem?_getD, -List.drop_one, ↓splitB_true, ↓splitB_false, go_sem]; try (refine ⟨fun c25 => ?_, fun c25 => ?_⟩ <;> (try simp [B_iff, B_not] at c25))
    | (refine AW_block (id := 0) (AW_loop (ι := Nat) (fun k : Nat => ⟨(upd (upd (upd (fun _ => .any) 0 (li cI xs)) 1 (li cI ys)) 5 (.int .i64 k)), fun _ => none⟩) (fun k => k ≤ xs.length ∧ NoneTill (neAt xs ys) k) (fun k => xs.length - k) (0) ?_ ?_ ?_); exact ⟨Nat.zero_le _, .zero _⟩; ((repeat' (first | exact sub_noneH (by assumption) | exact sub_none | refine sub_upd ?_ ?_ | refine sub_noneE ?_)) <;> simp [-List.getD_eq_getElem?_getD, -List.drop_one, ↓splitB_true, ↓splitB_false, go_sem]); rintro k ⟨hk, ht⟩)
    | (refine ⟨k + 1, ⟨by omega, ht.succ (by simp [neAt]; first | exact c25 | (apply Prod.ext <;> simp_all; done) | (simp_all [Prod.ext_iff]; done) | simp_all)⟩, by first | omega | (simp; done) | (simp; omega), ?_⟩; ((repeat' (first | exact sub_noneH (by assumption) | exact sub_none | refine sub_upd ?_ ?_ | refine sub_noneE ?_)) <;> simp [-List.getD_eq_getElem?_getD, -List.drop_one, ↓splitB_true, ↓splitB_false, go_sem]))
    | (refine AW_block ?_)
    | (refine AW_exit ?_; simp [-List.getD_eq_getElem?_getD, -List.drop_one, ↓splitB_true, ↓splitB_false, go_sem])
    | (refine AW_skip ?_; simp [-List.getD_eq_getElem?_getD, -List.drop_one, ↓splitB_true, ↓splitB_false, go_sem])
    | (refine AW_ret ?_; simp [-List.getD_eq_getElem?_getD, -List.drop_one, ↓splitB_true, ↓splitB_false, go_sem, Try.results32])
    | (intro hx; change AW _ _ _ _ _ _)
    | (intro hx; refine ⟨fun hs => ?_, fun hs => ?_⟩)
    | (refine ⟨fun hs => ?_, fun hs => ?_⟩)
    | (refine ⟨?_, fun hs => ?_⟩; change AW _ _ _ _ _ _)
    | (refine ⟨fun hs => ?_, ?_⟩; rotate_left; change AW _ _ _ _ _ _; rotate_left)))
  all_goals (first
    | (rintro rfl; simp at c10; done)
    | (rintro rfl; simp at c25; done)
    | exact eq_of_none (by omega) ht (by omega))
noncomputable def l2Ints_pureC : Con := .pure fun
  | [.list n_xs c_xs, .list n_ys c_ys] => ((Is cI n_xs c_xs) ∧ (Is cI n_ys c_ys), .bool (decide ((de cI c_xs) = (de cI c_ys))))
  | _ => (False, .any)
attribute [go_sem] l2Ints_pureC
theorem l2Ints_pureC_ok : ConOk Try.prog 32 l2Ints_pureC := by
  refine ⟨callable Try.func32 (by decide) rfl, fun args h => ?_⟩
  revert h
  dsimp only
  split
  · intro h
    obtain ⟨⟨xs, rfl, rfl⟩, ⟨ys, rfl, rfl⟩⟩ := h
    try simp only [de_cat] at *
    exact ⟨l2Ints_pure xs ys, by simp [go_sem]⟩
  · intro h
    exact h.elim
noncomputable def Γa12 : FuncId → Con := ext Γa11 32 l2Ints_pureC
attribute [go_sem] Γa12
theorem Γa12_ok : ∀ g, ConOk Try.prog g (Γa12 g) := ext_ok Γa11_ok l2Ints_pureC_ok

theorem sEqI_pure (xs : List Int) (ys : List Int)  : Pure Try.prog 36 [li cI xs, li cI ys] (.bool (decide (xs = ys))) := by
  refine Pure.of_walk Try.func36 rfl (by simp [Try.f36]) (by simp [-List.drop_one, go_sem]) fun B hK => ?_
  (repeat' (first
    | refine AW_seq ?_
    | (refine AW_len 0 rfl fun hm => ?_); refine AW_region (id := 0) Γa12_ok [] (by kernel_rfl) ?_; simp  [-List.getD_eq_getElem?_getD, -List.drop_one, ↓splitB_true, ↓splitB_false, go_sem]
    | refine AW_region (id := 1) Γa12_ok [] (by kernel_rfl) ?_; simp  [-List.getD_eq_getElem?_getD, -List.drop_one, ↓splitB_true, ↓splitB_false, go_sem]
    | refine AW_region (id := 2) Γa12_ok [] (by kernel_rfl) ?_; simp  [-List.getD_eq_getElem?_getD, -List.drop_one, ↓splitB_true, ↓splitB_false, go_sem]
    | refine AW_region (id := 3) Γa12_ok [] (by kernel_rfl) ?_; simp  [-List.getD_eq_getElem?_getD, -List.drop_one, ↓splitB_true, ↓splitB_false, go_sem]
    | refine AW_region (id := 4) Γa12_ok [] (by kernel_rfl) ?_; simp  [-List.getD_eq_getElem?_getD, -List.drop_one, ↓splitB_true, ↓splitB_false, go_sem]
    | refine AW_region (id := 5) Γa12_ok [] (by kernel_rfl) ?_; simp  [-List.getD_eq_getElem?_getD, -List.drop_one, ↓splitB_true, ↓splitB_false, go_sem, c14, ne_nil c14, Nat.sub_pos_of_lt c14]
    | (have cy : k < ys.length := by omega); refine AW_region_draw (id := 6) Γa12_ok mixed [] [5] (by kernel_rfl) (by kernel_rfl) (by simp [-List.getD_eq_getElem?_getD, -List.drop_one, ↓splitB_true, ↓splitB_false, go_sem, c14, ne_nil c14, Nat.sub_pos_of_lt c14, cy, ne_nil cy, Nat.sub_pos_of_lt cy]) ?_; simp  [-List.getD_eq_getElem?_getD, -List.drop_one, ↓splitB_true, ↓splitB_false, go_sem, c14, ne_nil c14, Nat.sub_pos_of_lt c14, cy, ne_nil cy, Nat.sub_pos_of_lt cy]
    | refine AW_region (id := 7) Γa12_ok [] (by kernel_rfl) ?_; simp  [-List.getD_eq_getElem?_getD, -List.drop_one, ↓splitB_true, ↓splitB_false, go_sem]
    | refine AW_region (id := 8) Γa12_ok [] (by kernel_rfl) ?_; simp  [-List.getD_eq_getElem?_getD, -List.drop_one, ↓splitB_true, ↓splitB_false, go_sem, wrapS (k := k) (by omega)]
    | refine AW_region (id := 9) Γa12_ok [] (by kernel_rfl) ?_; simp  [-List.getD_eq_getElem?_getD, -List.drop_one, ↓splitB_true, ↓splitB_false, go_sem]
    | refine AW_condA (c := .tmp 10) ?_; simp [-List.getD_eq_getElem?_getD, -List.drop_one, ↓splitB_true, ↓splitB_false, go_sem]; try (refine ⟨fun c10 => ?_, fun c10 => ?_⟩ <;> (try simp [B_iff, B_not] at c10))
    | refine AW_condA (c := .tmp 14) ?_; simp [-List.getD_eq_getElem?_getD, -List.drop_one, ↓splitB_true, ↓splitB_false, go_sem]; try (refine ⟨fun c14 => ?_, fun c14 => ?_⟩ <;> (try simp [B_iff, B_not] at c14))
    | refine AW_condA (c := .tmp 24) ?_; simp [-List.getD_eq_getElem?_getD, -List.drop_one, ↓splitB_true, ↓splitB_false, go_sem]; try (refine ⟨fun c24 => ?_, fun c24 => ?_⟩ <;> (try simp [B_iff, B_not] at c24))
    | (refine AW_block (id := 0) (AW_loop (ι := Nat) (fun k : Nat => ⟨(upd (upd (upd (upd (upd (fun _ => .any) 0 (li cI xs)) 1 (li cI ys)) 11 (li cI xs)) 12 (.int .i64 xs.length)) 13 (.int .i64 k)), fun _ => none⟩) (fun k => k ≤ xs.length ∧ NoneTill (neAt xs ys) k) (fun k => xs.length - k) (0) ?_ ?_ ?_); exact ⟨Nat.zero_le _, .zero _⟩; ((repeat' (first | exact sub_noneH (by assumption) | exact sub_none | refine sub_upd ?_ ?_ | refine sub_noneE ?_)) <;> simp [-List.getD_eq_getElem?_getD, -List.drop_one, ↓splitB_true, ↓splitB_false, go_sem]); rintro k ⟨hk, ht⟩)
    | (refine ⟨k + 1, ⟨by omega, ht.succ (by simp [neAt]; first | exact c24 | (simp_all [Prod.ext_iff]; done) | simp_all)⟩, by first | omega | (simp; done) | (simp; omega), ?_⟩; ((repeat' (first | exact sub_noneH (by assumption) | exact sub_none | refine sub_upd ?_ ?_ | refine sub_noneE ?_)) <;> simp [-List.getD_eq_getElem?_getD, -List.drop_one, ↓splitB_true, ↓splitB_false, go_sem]))
    | (refine AW_block ?_)
    | (refine AW_exit ?_; simp [-List.getD_eq_getElem?_getD, -List.drop_one, ↓splitB_true, ↓splitB_false, go_sem])
    | (refine AW_skip ?_; simp [-List.getD_eq_getElem?_getD, -List.drop_one, ↓splitB_true, ↓splitB_false, go_sem])
    | (refine AW_ret ?_; simp [-List.getD_eq_getElem?_getD, -List.drop_one, ↓splitB_true, ↓splitB_false, go_sem, Try.results36])
    | (intro hx; change AW _ _ _ _ _ _)
    | (intro hx; refine ⟨fun hs => ?_, fun hs => ?_⟩)
    | (refine ⟨fun hs => ?_, fun hs => ?_⟩)
    | (refine ⟨?_, fun hs => ?_⟩; change AW _ _ _ _ _ _)
    | (refine ⟨fun hs => ?_, ?_⟩; rotate_left; change AW _ _ _ _ _ _; rotate_left)))
  all_goals (first
    | (rintro rfl; simp at c10; done)
    | (rintro rfl; simp at c24; done)
    | (rintro rfl; exact c24 rfl)
    | exact eq_of_none (by omega) ht (by omega))
noncomputable def sEqI_pureC : Con := .pure fun
  | [.list n_xs c_xs, .list n_ys c_ys] => ((Is cI n_xs c_xs) ∧ (Is cI n_ys c_ys), .bool (decide ((de cI c_xs) = (de cI c_ys))))
  | _ => (False, .any)
attribute [go_sem] sEqI_pureC
theorem sEqI_pureC_ok : ConOk Try.prog 36 sEqI_pureC := by
  refine ⟨callable Try.func36 (by decide) rfl, fun args h => ?_⟩
  revert h
  dsimp only
  split
  · intro h
    obtain ⟨⟨xs, rfl, rfl⟩, ⟨ys, rfl, rfl⟩⟩ := h
    try simp only [de_cat] at *
    exact ⟨sEqI_pure xs ys, by simp [go_sem]⟩
  · intro h
    exact h.elim
noncomputable def Γa13 : FuncId → Con := ext Γa12 36 sEqI_pureC
attribute [go_sem] Γa13
theorem Γa13_ok : ∀ g, ConOk Try.prog g (Γa13 g) := ext_ok Γa12_ok sEqI_pureC_ok

theorem sEqB_pure (xs : List Bool) (ys : List Bool)  : Pure Try.prog 37 [li cB xs, li cB ys] (.bool (decide (xs = ys))) := by
  refine Pure.of_walk Try.func37 rfl (by simp [Try.f37]) (by simp [-List.drop_one, go_sem]) fun B hK => ?_
  (repeat' (first
    | refine AW_seq ?_
    | (refine AW_len 0 rfl fun hm => ?_); refine AW_region (id := 0) Γa13_ok [] (by kernel_rfl) ?_; simp  [-List.getD_eq_getElem?_getD, -List.drop_one, ↓splitB_true, ↓splitB_false, go_sem]
    | refine AW_region (id := 1) Γa13_ok [] (by kernel_rfl) ?_; simp  [-List.getD_eq_getElem?_getD, -List.drop_one, ↓splitB_true, ↓splitB_false, go_sem]
    | refine AW_region (id := 2) Γa13_ok [] (by kernel_rfl) ?_; simp  [-List.getD_eq_getElem?_getD, -List.drop_one, ↓splitB_true, ↓splitB_false, go_sem]
    | refine AW_region (id := 3) Γa13_ok [] (by kernel_rfl) ?_; simp  [-List.getD_eq_getElem?_getD, -List.drop_one, ↓splitB_true, ↓splitB_false, go_sem]
    | refine AW_region (id := 4) Γa13_ok [] (by kernel_rfl) ?_; simp  [-List.getD_eq_getElem?_getD, -List.drop_one, ↓splitB_true, ↓splitB_false, go_sem]
    | refine AW_region (id := 5) Γa13_ok [] (by kernel_rfl) ?_; simp  [-List.getD_eq_getElem?_getD, -List.drop_one, ↓splitB_true, ↓splitB_false, go_sem, c14, ne_nil c14, Nat.sub_pos_of_lt c14]
    | (have cy : k < ys.length := by omega); refine AW_region_draw (id := 6) Γa13_ok mixed [] [5] (by kernel_rfl) (by kernel_rfl) (by simp [-List.getD_eq_getElem?_getD, -List.drop_one, ↓splitB_true, ↓splitB_false, go_sem, c14, ne_nil c14, Nat.sub_pos_of_lt c14, cy, ne_nil cy, Nat.sub_pos_of_lt cy]) ?_; simp  [-List.getD_eq_getElem?_getD, -List.drop_one, ↓splitB_true, ↓splitB_false, go_sem, c14, ne_nil c14, Nat.sub_pos_of_lt c14, cy, ne_nil cy, Nat.sub_pos_of_lt cy]
    | refine AW_region (id := 7) Γa13_ok [] (by kernel_rfl) ?_; simp  [-List.getD_eq_getElem?_getD, -List.drop_one, ↓splitB_true, ↓splitB_false, go_sem]
    | refine AW_region (id := 8) Γa13_ok [] (by kernel_rfl) ?_; simp  [-List.getD_eq_getElem?_getD, -List.drop_one, ↓splitB_true, ↓splitB_false, go_sem, wrapS (k := k) (by omega)]
    | refine AW_region (id := 9) Γa13_ok [] (by kernel_rfl) ?_; simp  [-List.getD_eq_getElem?_getD, -List.drop_one, ↓splitB_true, ↓splitB_false, go_sem]
    | refine AW_condA (c := .tmp 10) ?_; simp [-List.getD_eq_getElem?_getD, -List.drop_one, ↓splitB_true, ↓splitB_false, go_sem]; try (refine ⟨fun c10 => ?_, fun c10 => ?_⟩ <;> (try simp [B_iff, B_not] at c10))
    | refine AW_condA (c := .tmp 14) ?_; simp [-List.getD_eq_getElem?_getD, -List.drop_one, ↓splitB_true, ↓splitB_false, go_sem]; try (refine ⟨fun c14 => ?_, fun c14 => ?_⟩ <;> (try simp [B_iff, B_not] at c14))
    | refine AW_condA (c := .tmp 24) ?_; simp [-List.getD_eq_getElem?_getD, -List.drop_one, ↓splitB_true, ↓splitB_false, go_sem]; try (refine ⟨fun c24 => ?_, fun c24 => ?_⟩ <;> (try simp [B_iff, B_not] at c24))
    | (refine AW_block (id := 0) (AW_loop (ι := Nat) (fun k : Nat => ⟨(upd (upd (upd (upd (upd (fun _ => .any) 0 (li cB xs)) 1 (li cB ys)) 11 (li cB xs)) 12 (.int .i64 xs.length)) 13 (.int .i64 k)), fun _ => none⟩) (fun k => k ≤ xs.length ∧ NoneTill (neAt xs ys) k) (fun k => xs.length - k) (0) ?_ ?_ ?_); exact ⟨Nat.zero_le _, .zero _⟩; ((repeat' (first | exact sub_noneH (by assumption) | exact sub_none | refine sub_upd ?_ ?_ | refine sub_noneE ?_)) <;> simp [-List.getD_eq_getElem?_getD, -List.drop_one, ↓splitB_true, ↓splitB_false, go_sem]); rintro k ⟨hk, ht⟩)
    | (refine ⟨k + 1, ⟨by omega, ht.succ (by simp [neAt]; first | exact c24 | (simp_all [Prod.ext_iff]; done) | simp_all)⟩, by first | omega | (simp; done) | (simp; omega), ?_⟩; ((repeat' (first | exact sub_noneH (by assumption) | exact sub_none | refine sub_upd ?_ ?_ | refine sub_noneE ?_)) <;> simp [-List.getD_eq_getElem?_getD, -List.drop_one, ↓splitB_true, ↓splitB_false, go_sem]))
    | (refine AW_block ?_)
    | (refine AW_exit ?_; simp [-List.getD_eq_getElem?_getD, -List.drop_one, ↓splitB_true, ↓splitB_false, go_sem])
    | (refine AW_skip ?_; simp [-List.getD_eq_getElem?_getD, -List.drop_one, ↓splitB_true, ↓splitB_false, go_sem])
    | (refine AW_ret ?_; simp [-List.getD_eq_getElem?_getD, -List.drop_one, ↓splitB_true, ↓splitB_false, go_sem, Try.results37])
    | (intro hx; change AW _ _ _ _ _ _)
    | (intro hx; refine ⟨fun hs => ?_, fun hs => ?_⟩)
    | (refine ⟨fun hs => ?_, fun hs => ?_⟩)
    | (refine ⟨?_, fun hs => ?_⟩; change AW _ _ _ _ _ _)
    | (refine ⟨fun hs => ?_, ?_⟩; rotate_left; change AW _ _ _ _ _ _; rotate_left)))
  all_goals (first
    | (rintro rfl; simp at c10; done)
    | (rintro rfl; simp at c24; done)
    | (rintro rfl; exact c24 rfl)
    | exact eq_of_none (by omega) ht (by omega))
noncomputable def sEqB_pureC : Con := .pure fun
  | [.list n_xs c_xs, .list n_ys c_ys] => ((Is cB n_xs c_xs) ∧ (Is cB n_ys c_ys), .bool (decide ((de cB c_xs) = (de cB c_ys))))
  | _ => (False, .any)
attribute [go_sem] sEqB_pureC
theorem sEqB_pureC_ok : ConOk Try.prog 37 sEqB_pureC := by
  refine ⟨callable Try.func37 (by decide) rfl, fun args h => ?_⟩
  revert h
  dsimp only
  split
  · intro h
    obtain ⟨⟨xs, rfl, rfl⟩, ⟨ys, rfl, rfl⟩⟩ := h
    try simp only [de_cat] at *
    exact ⟨sEqB_pure xs ys, by simp [go_sem]⟩
  · intro h
    exact h.elim
noncomputable def Γa14 : FuncId → Con := ext Γa13 37 sEqB_pureC
attribute [go_sem] Γa14
theorem Γa14_ok : ∀ g, ConOk Try.prog g (Γa14 g) := ext_ok Γa13_ok sEqB_pureC_ok

theorem sEqT_pure (xs : List Tr4) (ys : List Tr4)  : Pure Try.prog 38 [li cT xs, li cT ys] (.bool (decide (xs = ys))) := by
  refine Pure.of_walk Try.func38 rfl (by simp [Try.f38]) (by simp [-List.drop_one, go_sem]) fun B hK => ?_
  (repeat' (first
    | refine AW_seq ?_
    | (refine AW_len 0 rfl fun hm => ?_); refine AW_region (id := 0) Γa14_ok [] (by kernel_rfl) ?_; simp  [-List.getD_eq_getElem?_getD, -List.drop_one, ↓splitB_true, ↓splitB_false, go_sem]
    | refine AW_region (id := 1) Γa14_ok [] (by kernel_rfl) ?_; simp  [-List.getD_eq_getElem?_getD, -List.drop_one, ↓splitB_true, ↓splitB_false, go_sem]
    | refine AW_region (id := 2) Γa14_ok [] (by kernel_rfl) ?_; simp  [-List.getD_eq_getElem?_getD, -List.drop_one, ↓splitB_true, ↓splitB_false, go_sem]
    | refine AW_region (id := 3) Γa14_ok [] (by kernel_rfl) ?_; simp  [-List.getD_eq_getElem?_getD, -List.drop_one, ↓splitB_true, ↓splitB_false, go_sem]
    | refine AW_region (id := 4) Γa14_ok [] (by kernel_rfl) ?_; simp  [-List.getD_eq_getElem?_getD, -List.drop_one, ↓splitB_true, ↓splitB_false, go_sem]
    | refine AW_region (id := 5) Γa14_ok [] (by kernel_rfl) ?_; simp  [-List.getD_eq_getElem?_getD, -List.drop_one, ↓splitB_true, ↓splitB_false, go_sem, c14, ne_nil c14, Nat.sub_pos_of_lt c14]
    | (have cy : k < ys.length := by omega); refine AW_region_draw (id := 6) Γa14_ok mixed [] [5] (by kernel_rfl) (by kernel_rfl) (by simp [-List.getD_eq_getElem?_getD, -List.drop_one, ↓splitB_true, ↓splitB_false, go_sem, c14, ne_nil c14, Nat.sub_pos_of_lt c14, cy, ne_nil cy, Nat.sub_pos_of_lt cy]) ?_; simp  [-List.getD_eq_getElem?_getD, -List.drop_one, ↓splitB_true, ↓splitB_false, go_sem, c14, ne_nil c14, Nat.sub_pos_of_lt c14, cy, ne_nil cy, Nat.sub_pos_of_lt cy]
    | refine AW_region (id := 7) Γa14_ok [] (by kernel_rfl) ?_; simp  [-List.getD_eq_getElem?_getD, -List.drop_one, ↓splitB_true, ↓splitB_false, go_sem]
    | refine AW_region (id := 8) Γa14_ok [] (by kernel_rfl) ?_; simp  [-List.getD_eq_getElem?_getD, -List.drop_one, ↓splitB_true, ↓splitB_false, go_sem, wrapS (k := k) (by omega)]
    | refine AW_region (id := 9) Γa14_ok [] (by kernel_rfl) ?_; simp  [-List.getD_eq_getElem?_getD, -List.drop_one, ↓splitB_true, ↓splitB_false, go_sem]
    | refine AW_condA (c := .tmp 10) ?_; simp [-List.getD_eq_getElem?_getD, -List.drop_one, ↓splitB_true, ↓splitB_false, go_sem]; try (refine ⟨fun c10 => ?_, fun c10 => ?_⟩ <;> (try simp [B_iff, B_not] at c10))
    | refine AW_condA (c := .tmp 14) ?_; simp [-List.getD_eq_getElem?_getD, -List.drop_one, ↓splitB_true, ↓splitB_false, go_sem]; try (refine ⟨fun c14 => ?_, fun c14 => ?_⟩ <;> (try simp [B_iff, B_not] at c14))
    | refine AW_condA (c := .tmp 24) ?_; simp [-List.getD_eq_getElem?_getD, -List.drop_one, ↓splitB_true, ↓splitB_false, go_sem]; try (refine ⟨fun c24 => ?_, fun c24 => ?_⟩ <;> (try simp [B_iff, B_not] at c24))
    | (refine AW_block (id := 0) (AW_loop (ι := Nat) (fun k : Nat => ⟨(upd (upd (upd (upd (upd (fun _ => .any) 0 (li cT xs)) 1 (li cT ys)) 11 (li cT xs)) 12 (.int .i64 xs.length)) 13 (.int .i64 k)), fun _ => none⟩) (fun k => k ≤ xs.length ∧ NoneTill (neAt xs ys) k) (fun k => xs.length - k) (0) ?_ ?_ ?_); exact ⟨Nat.zero_le _, .zero _⟩; ((repeat' (first | exact sub_noneH (by assumption) | exact sub_none | refine sub_upd ?_ ?_ | refine sub_noneE ?_)) <;> simp [-List.getD_eq_getElem?_getD, -List.drop_one, ↓splitB_true, ↓splitB_false, go_sem]); rintro k ⟨hk, ht⟩)
    | (refine ⟨k + 1, ⟨by omega, ht.succ (by simp [neAt]; first | exact c24 | (simp_all [Prod.ext_iff]; done) | simp_all)⟩, by first | omega | (simp; done) | (simp; omega), ?_⟩; ((repeat' (first | exact sub_noneH (by assumption) | exact sub_none | refine sub_upd ?_ ?_ | refine sub_noneE ?_)) <;> simp [-List.getD_eq_getElem?_getD, -List.drop_one, ↓splitB_true, ↓splitB_false, go_sem]))
    | (refine AW_block ?_)
    | (refine AW_exit ?_; simp [-List.getD_eq_getElem?_getD, -List.drop_one, ↓splitB_true, ↓splitB_false, go_sem])
    | (refine AW_skip ?_; simp [-List.getD_eq_getElem?_getD, -List.drop_one, ↓splitB_true, ↓splitB_false, go_sem])
    | (refine AW_ret ?_; simp [-List.getD_eq_getElem?_getD, -List.drop_one, ↓splitB_true, ↓splitB_false, go_sem, Try.results38])
    | (intro hx; change AW _ _ _ _ _ _)
    | (intro hx; refine ⟨fun hs => ?_, fun hs => ?_⟩)
    | (refine ⟨fun hs => ?_, fun hs => ?_⟩)
    | (refine ⟨?_, fun hs => ?_⟩; change AW _ _ _ _ _ _)
    | (refine ⟨fun hs => ?_, ?_⟩; rotate_left; change AW _ _ _ _ _ _; rotate_left)))
  all_goals (first
    | (rintro rfl; simp at c10; done)
    | (rintro rfl; simp at c24; done)
    | (rintro rfl; exact c24 rfl)
    | exact eq_of_none (by omega) ht (by omega))
noncomputable def sEqT_pureC : Con := .pure fun
  | [.list n_xs c_xs, .list n_ys c_ys] => ((Is cT n_xs c_xs) ∧ (Is cT n_ys c_ys), .bool (decide ((de cT c_xs) = (de cT c_ys))))
  | _ => (False, .any)
attribute [go_sem] sEqT_pureC
theorem sEqT_pureC_ok : ConOk Try.prog 38 sEqT_pureC := by
  refine ⟨callable Try.func38 (by decide) rfl, fun args h => ?_⟩
  revert h
  dsimp only
  split
  · intro h
    obtain ⟨⟨xs, rfl, rfl⟩, ⟨ys, rfl, rfl⟩⟩ := h
    try simp only [de_cat] at *
    exact ⟨sEqT_pure xs ys, by simp [go_sem]⟩
  · intro h
    exact h.elim
noncomputable def Γa15 : FuncId → Con := ext Γa14 38 sEqT_pureC
attribute [go_sem] Γa15
theorem Γa15_ok : ∀ g, ConOk Try.prog g (Γa15 g) := ext_ok Γa14_ok sEqT_pureC_ok

theorem implAutomatonSame_pure (a : List Int) (b : List Bool) (c : List Tr4) (a' : List Int) (b' : List Bool) (c' : List Tr4)  : Pure Try.prog 11 [.st [li cI a, li cB b, li cT c], .st [li cI a', li cB b', li cT c']] (.bool (decide (a = a') && decide (b = b') && decide (c = c'))) := by
  refine Pure.of_walk Try.func11 rfl (by simp [Try.f11]) (by simp [-List.drop_one, go_sem]) fun B hK => ?_
  (repeat' (first
    | refine AW_seq ?_
    | refine AW_region (id := 0) Γa15_ok [] (by kernel_rfl) ?_; simp  [-List.getD_eq_getElem?_getD, -List.drop_one, ↓splitB_true, ↓splitB_false, go_sem]; try (refine AW_data hK 2 ?_; simp [go_sem]; refine AW_data hK 3 ?_; simp [go_sem])
    | refine AW_region (id := 1) Γa15_ok [10, 17] (by kernel_rfl) ?_; simp  [-List.getD_eq_getElem?_getD, -List.drop_one, ↓splitB_true, ↓splitB_false, go_sem]; try (refine ⟨fun s1a => ?_, fun s1a => ?_⟩ <;> (try simp [B_iff, B_not] at s1a) <;> try (refine ⟨fun s1b => ?_, fun s1b => ?_⟩ <;> (try simp [B_iff, B_not] at s1b) <;> try (refine ⟨fun s1c => ?_, fun s1c => ?_⟩ <;> (try simp [B_iff, B_not] at s1c))))
    | (refine AW_block ?_)
    | (refine AW_exit ?_; simp [-List.getD_eq_getElem?_getD, -List.drop_one, ↓splitB_true, ↓splitB_false, go_sem])
    | (refine AW_skip ?_; simp [-List.getD_eq_getElem?_getD, -List.drop_one, ↓splitB_true, ↓splitB_false, go_sem])
    | (refine AW_ret ?_; simp [-List.getD_eq_getElem?_getD, -List.drop_one, ↓splitB_true, ↓splitB_false, go_sem, Try.results11])
    | (intro hx; change AW _ _ _ _ _ _)
    | (intro hx; refine ⟨fun hs => ?_, fun hs => ?_⟩)
    | (refine ⟨fun hs => ?_, fun hs => ?_⟩)
    | (refine ⟨?_, fun hs => ?_⟩; change AW _ _ _ _ _ _)
    | (refine ⟨fun hs => ?_, ?_⟩; rotate_left; change AW _ _ _ _ _ _; rotate_left)))
  all_goals (first
    | (simp_all; done)
    | (intros; simp_all; done))
noncomputable def implAutomatonSame_pureC : Con := .pure fun
  | [.st [.list n_a c_a, .list n_b c_b, .list n_c c_c], .st [.list n_a' c_a', .list n_b' c_b', .list n_c' c_c']] => ((Is cI n_a c_a) ∧ (Is cB n_b c_b) ∧ (Is cT n_c c_c) ∧ (Is cI n_a' c_a') ∧ (Is cB n_b' c_b') ∧ (Is cT n_c' c_c'), .bool (decide ((de cI c_a) = (de cI c_a')) && decide ((de cB c_b) = (de cB c_b')) && decide ((de cT c_c) = (de cT c_c'))))
  | _ => (False, .any)
attribute [go_sem] implAutomatonSame_pureC
theorem implAutomatonSame_pureC_ok : ConOk Try.prog 11 implAutomatonSame_pureC := by
  refine ⟨callable Try.func11 (by decide) rfl, fun args h => ?_⟩
  revert h
  dsimp only
  split
  · intro h
    obtain ⟨⟨a, rfl, rfl⟩, ⟨b, rfl, rfl⟩, ⟨c, rfl, rfl⟩, ⟨a', rfl, rfl⟩, ⟨b', rfl, rfl⟩, ⟨c', rfl, rfl⟩⟩ := h
    try simp only [de_cat] at *
    exact ⟨implAutomatonSame_pure a b c a' b' c', by simp [go_sem]⟩
  · intro h
    exact h.elim
noncomputable def Γa16 : FuncId → Con := ext Γa15 11 implAutomatonSame_pureC
attribute [go_sem] Γa16
theorem Γa16_ok : ∀ g, ConOk Try.prog g (Γa16 g) := ext_ok Γa15_ok implAutomatonSame_pureC_ok

theorem specAutomatonSame_pure (a : List Int) (b : List Bool) (c : List Tr4) (a' : List Int) (b' : List Bool) (c' : List Tr4)  : Pure Try.prog 9 [.st [li cI a, li cB b, li cT c], .st [li cI a', li cB b', li cT c']] (.bool (decide (a = a') && decide (b = b') && decide (c = c'))) := by
  refine Pure.of_walk Try.func9 rfl (by simp [Try.f9]) (by simp [-List.drop_one, go_sem]) fun B hK => ?_
  (repeat' (first
    | refine AW_seq ?_
    | refine AW_region (id := 0) Γa16_ok [] (by kernel_rfl) ?_; simp  [-List.getD_eq_getElem?_getD, -List.drop_one, ↓splitB_true, ↓splitB_false, go_sem]; try (refine AW_data hK 2 ?_; simp [go_sem]; refine AW_data hK 3 ?_; simp [go_sem])
    | refine AW_region (id := 1) Γa16_ok [13, 22] (by kernel_rfl) ?_; simp  [-List.getD_eq_getElem?_getD, -List.drop_one, ↓splitB_true, ↓splitB_false, go_sem]; try (refine ⟨fun s1a => ?_, fun s1a => ?_⟩ <;> (try simp [B_iff, B_not] at s1a) <;> try (refine ⟨fun s1b => ?_, fun s1b => ?_⟩ <;> (try simp [B_iff, B_not] at s1b) <;> try (refine ⟨fun s1c => ?_, fun s1c => ?_⟩ <;> (try simp [B_iff, B_not] at s1c))))
    | refine AW_region (id := 2) Γa16_ok [] (by kernel_rfl) ?_; simp  [-List.getD_eq_getElem?_getD, -List.drop_one, ↓splitB_true, ↓splitB_false, go_sem]
    | (refine AW_lenP 2 1 ⟨rfl, rfl⟩ fun hm => ?_; refine AW_lenP 2 2 ⟨rfl, rfl⟩ fun hm2 => ?_); refine AW_region (id := 3) Γa16_ok [] (by kernel_rfl) ?_; simp  [-List.getD_eq_getElem?_getD, -List.drop_one, ↓splitB_true, ↓splitB_false, go_sem]
    | refine AW_region (id := 4) Γa16_ok [] (by kernel_rfl) ?_; simp  [-List.getD_eq_getElem?_getD, -List.drop_one, ↓splitB_true, ↓splitB_false, go_sem]
    | (have cy : k < b'.length := by omega); refine AW_region_draw (id := 6) Γa16_ok mixed [] [5] (by kernel_rfl) (by kernel_rfl) (by simp [-List.getD_eq_getElem?_getD, -List.drop_one, ↓splitB_true, ↓splitB_false, go_sem, c35, ne_nil c35, Nat.sub_pos_of_lt c35, cy, ne_nil cy, Nat.sub_pos_of_lt cy]) ?_; simp  [-List.getD_eq_getElem?_getD, -List.drop_one, ↓splitB_true, ↓splitB_false, go_sem, c35, ne_nil c35, Nat.sub_pos_of_lt c35, cy, ne_nil cy, Nat.sub_pos_of_lt cy]
    | refine AW_region (id := 7) Γa16_ok [] (by kernel_rfl) ?_; simp  [-List.getD_eq_getElem?_getD, -List.drop_one, ↓splitB_true, ↓splitB_false, go_sem]
    | refine AW_region (id := 5) Γa16_ok [] (by kernel_rfl) ?_; simp  [-List.getD_eq_getElem?_getD, -List.drop_one, ↓splitB_true, ↓splitB_false, go_sem, wrapS (k := k) (by omega)]
    | refine AW_region (id := 8) Γa16_ok [] (by kernel_rfl) ?_; simp  [-List.getD_eq_getElem?_getD, -List.drop_one, ↓splitB_true, ↓splitB_false, go_sem]
    | refine AW_region (id := 9) Γa16_ok [] (by kernel_rfl) ?_; simp  [-List.getD_eq_getElem?_getD, -List.drop_one, ↓splitB_true, ↓splitB_false, go_sem]
    | (have cz : i < c'.length := by omega); refine AW_region_draw (id := 11) Γa16_ok mixed [] [6] (by kernel_rfl) (by kernel_rfl) (by simp [-List.getD_eq_getElem?_getD, -List.drop_one, ↓splitB_true, ↓splitB_false, go_sem, c53, ne_nil c53, Nat.sub_pos_of_lt c53, cz, ne_nil cz, Nat.sub_pos_of_lt cz]) ?_; simp  [-List.getD_eq_getElem?_getD, -List.drop_one, ↓splitB_true, ↓splitB_false, go_sem, c53, ne_nil c53, Nat.sub_pos_of_lt c53, cz, ne_nil cz, Nat.sub_pos_of_lt cz]
    | refine AW_region (id := 12) Γa16_ok [] (by kernel_rfl) ?_; simp  [-List.getD_eq_getElem?_getD, -List.drop_one, ↓splitB_true, ↓splitB_false, go_sem]
    | refine AW_region (id := 10) Γa16_ok [] (by kernel_rfl) ?_; simp  [-List.getD_eq_getElem?_getD, -List.drop_one, ↓splitB_true, ↓splitB_false, go_sem, wrapS (k := i) (by omega)]
    | refine AW_region (id := 13) Γa16_ok [] (by kernel_rfl) ?_; simp  [-List.getD_eq_getElem?_getD, -List.drop_one, ↓splitB_true, ↓splitB_false, go_sem]
    | refine AW_condA (c := .tmp 30) ?_; simp [-List.getD_eq_getElem?_getD, -List.drop_one, ↓splitB_true, ↓splitB_false, go_sem]; try (refine ⟨fun c30 => ?_, fun c30 => ?_⟩ <;> (try simp [B_iff, B_not] at c30))
    | refine AW_condA (c := .tmp 35) ?_; simp [-List.getD_eq_getElem?_getD, -List.drop_one, ↓splitB_true, ↓splitB_false, go_sem]; try (refine ⟨fun c35 => ?_, fun c35 => ?_⟩ <;> (try simp [B_iff, B_not] at c35))
    | refine AW_condA (c := .tmp 48) ?_; simp [-List.getD_eq_getElem?_getD, -List.drop_one, ↓splitB_true, ↓splitB_false, go_sem]; try (refine ⟨fun c48 => ?_, fun c48 => ?_⟩ <;> (try simp [B_iff, B_not] at c48))
    | refine AW_condA (c := .tmp 53) ?_; simp [-List.getD_eq_getElem?_getD, -List.drop_one, ↓splitB_true, ↓splitB_false, go_sem]; try (refine ⟨fun c53 => ?_, fun c53 => ?_⟩ <;> (try simp [B_iff, B_not] at c53))
    | refine AW_condA (c := .tmp 66) ?_; simp [-List.getD_eq_getElem?_getD, -List.drop_one, ↓splitB_true, ↓splitB_false, go_sem]; try (refine ⟨fun c66 => ?_, fun c66 => ?_⟩ <;> (try simp [B_iff, B_not] at c66))
    | (refine AW_block (id := 0) (AW_loop (ι := Nat) (fun k : Nat => ⟨(upd (upd (upd (fun _ => .any) 2 (.pd [li cI a, li cB b, li cT c])) 3 (.pd [li cI a', li cB b', li cT c'])) 5 (.int .i64 k)), fun _ => none⟩) (fun k => k ≤ b.length ∧ NoneTill (neAt b b') k) (fun k => b.length - k) (0) ?_ ?_ ?_); exact ⟨Nat.zero_le _, .zero _⟩; ((repeat' (first | exact sub_noneH (by assumption) | exact sub_none | refine sub_upd ?_ ?_ | refine sub_noneE ?_)) <;> simp [-List.getD_eq_getElem?_getD, -List.drop_one, ↓splitB_true, ↓splitB_false, go_sem]); rintro k ⟨hk, ht⟩)
    | (refine ⟨k + 1, ⟨by omega, ht.succ (by simp [neAt]; first | exact c48 | simp_all)⟩, by first | omega | (simp; done) | (simp; omega), ?_⟩; ((repeat' (first | exact sub_noneH (by assumption) | exact sub_none | refine sub_upd ?_ ?_ | refine sub_noneE ?_)) <;> simp [-List.getD_eq_getElem?_getD, -List.drop_one, ↓splitB_true, ↓splitB_false, go_sem]))
    | (refine AW_block (id := 2) (AW_loop (ι := Nat) (fun i : Nat => ⟨(upd (upd (upd (fun _ => .any) 2 (.pd [li cI a, li cB b, li cT c])) 3 (.pd [li cI a', li cB b', li cT c'])) 6 (.int .i64 i)), fun _ => none⟩) (fun i => i ≤ c.length ∧ NoneTill (neAt c c') i) (fun i => c.length - i) (0) ?_ ?_ ?_); exact ⟨Nat.zero_le _, .zero _⟩; ((repeat' (first | exact sub_noneH (by assumption) | exact sub_none | refine sub_upd ?_ ?_ | refine sub_noneE ?_)) <;> simp [-List.getD_eq_getElem?_getD, -List.drop_one, ↓splitB_true, ↓splitB_false, go_sem]); rintro i ⟨hi, hu⟩)
    | (refine ⟨i + 1, ⟨by omega, hu.succ (by simp [neAt]; first | exact c66 | (simp_all [Prod.ext_iff]; done) | simp_all)⟩, by first | omega | (simp; done) | (simp; omega), ?_⟩; ((repeat' (first | exact sub_noneH (by assumption) | exact sub_none | refine sub_upd ?_ ?_ | refine sub_noneE ?_)) <;> simp [-List.getD_eq_getElem?_getD, -List.drop_one, ↓splitB_true, ↓splitB_false, go_sem]))
    | (refine AW_block ?_)
    | (refine AW_exit ?_; simp [-List.getD_eq_getElem?_getD, -List.drop_one, ↓splitB_true, ↓splitB_false, go_sem])
    | (refine AW_skip ?_; simp [-List.getD_eq_getElem?_getD, -List.drop_one, ↓splitB_true, ↓splitB_false, go_sem])
    | (refine AW_ret ?_; simp [-List.getD_eq_getElem?_getD, -List.drop_one, ↓splitB_true, ↓splitB_false, go_sem, Try.results9])
    | (intro hx; change AW _ _ _ _ _ _)
    | (intro hx; refine ⟨fun hs => ?_, fun hs => ?_⟩)
    | (refine ⟨fun hs => ?_, fun hs => ?_⟩)
    | (refine ⟨?_, fun hs => ?_⟩; change AW _ _ _ _ _ _)
    | (refine ⟨fun hs => ?_, ?_⟩; rotate_left; change AW _ _ _ _ _ _; rotate_left)))
  all_goals (first
    | exact ⟨⟨s1a, eq_of_none (by omega) ht (by omega)⟩, eq_of_none (by omega) hu (by omega)⟩
    | exact ⟨s1a, eq_of_none (by omega) ht (by omega), eq_of_none (by omega) hu (by omega)⟩
    | (rintro rfl; exact absurd rfl s1a)
    | (rintro rfl rfl rfl; simp_all; done)
    | (rintro rfl rfl; simp_all; done)
    | (rintro rfl; simp_all; done))
noncomputable def specAutomatonSame_pureC : Con := .pure fun
  | [.st [.list n_a c_a, .list n_b c_b, .list n_c c_c], .st [.list n_a' c_a', .list n_b' c_b', .list n_c' c_c']] => ((Is cI n_a c_a) ∧ (Is cB n_b c_b) ∧ (Is cT n_c c_c) ∧ (Is cI n_a' c_a') ∧ (Is cB n_b' c_b') ∧ (Is cT n_c' c_c'), .bool (decide ((de cI c_a) = (de cI c_a')) && decide ((de cB c_b) = (de cB c_b')) && decide ((de cT c_c) = (de cT c_c'))))
  | _ => (False, .any)
attribute [go_sem] specAutomatonSame_pureC
theorem specAutomatonSame_pureC_ok : ConOk Try.prog 9 specAutomatonSame_pureC := by
  refine ⟨callable Try.func9 (by decide) rfl, fun args h => ?_⟩
  revert h
  dsimp only
  split
  · intro h
    obtain ⟨⟨a, rfl, rfl⟩, ⟨b, rfl, rfl⟩, ⟨c, rfl, rfl⟩, ⟨a', rfl, rfl⟩, ⟨b', rfl, rfl⟩, ⟨c', rfl, rfl⟩⟩ := h
    try simp only [de_cat] at *
    exact ⟨specAutomatonSame_pure a b c a' b' c', by simp [go_sem]⟩
  · intro h
    exact h.elim
noncomputable def Γa17 : FuncId → Con := ext Γa16 9 specAutomatonSame_pureC
attribute [go_sem] Γa17
theorem Γa17_ok : ∀ g, ConOk Try.prog g (Γa17 g) := ext_ok Γa16_ok specAutomatonSame_pureC_ok

theorem lawAutomatonSame (a : List Int) (b : List Bool) (c : List Tr4) (a' : List Int) (b' : List Bool) (c' : List Tr4)  : Pure Try.prog 3 [.st [li cI a, li cB b, li cT c], .st [li cI a', li cB b', li cT c']] (.bool true) := by
  refine Pure.of_walk Try.func3 rfl (by simp [Try.f3]) (by simp [-List.drop_one, go_sem]) fun B hK => ?_
  (repeat' (first
    | refine AW_seq ?_
    | refine AW_region (id := 0) Γa17_ok [] (by kernel_rfl) ?_; simp  [-List.getD_eq_getElem?_getD, -List.drop_one, ↓splitB_true, ↓splitB_false, go_sem]; try (refine AW_data hK 2 ?_; simp [go_sem]; refine AW_data hK 3 ?_; simp [go_sem])
    | refine AW_region (id := 1) Γa17_ok [] (by kernel_rfl) ?_; simp  [-List.getD_eq_getElem?_getD, -List.drop_one, ↓splitB_true, ↓splitB_false, go_sem]
    | refine AW_region (id := 2) Γa17_ok [] (by kernel_rfl) ?_; simp  [-List.getD_eq_getElem?_getD, -List.drop_one, ↓splitB_true, ↓splitB_false, go_sem]
    | refine AW_region (id := 3) Γa17_ok [] (by kernel_rfl) ?_; simp  [-List.getD_eq_getElem?_getD, -List.drop_one, ↓splitB_true, ↓splitB_false, go_sem]
    | refine AW_region (id := 4) Γa17_ok [] (by kernel_rfl) ?_; simp  [-List.getD_eq_getElem?_getD, -List.drop_one, ↓splitB_true, ↓splitB_false, go_sem]
    | refine AW_region (id := 5) Γa17_ok [] (by kernel_rfl) ?_; simp  [-List.getD_eq_getElem?_getD, -List.drop_one, ↓splitB_true, ↓splitB_false, go_sem, szOf_lo (left := 1048576) (by omega), szOf_hi (left := 1048576) (by omega)]
    | refine AW_region (id := 6) Γa17_ok [] (by kernel_rfl) ?_; simp  [-List.getD_eq_getElem?_getD, -List.drop_one, ↓splitB_true, ↓splitB_false, go_sem]
    | refine AW_region (id := 7) Γa17_ok [] (by kernel_rfl) ?_; simp  [-List.getD_eq_getElem?_getD, -List.drop_one, ↓splitB_true, ↓splitB_false, go_sem]
    | (have q1 := szOf_le c14; have q2 := szOf_le c19; have q3 := szOf_hi (left := 1048576) (by omega) (a.length + b.length + c.length); have hA : a.length ≤ 1048576 := (by omega); have hB : b.length ≤ 1048576 := (by omega); have hC : c.length ≤ 1048576 := (by omega); have hA' : a'.length ≤ 1048576 := (by omega); have hB' : b'.length ≤ 1048576 := (by omega); have hC' : c'.length ≤ 1048576 := (by omega)); refine AW_region_draw (id := 8) Γa17_ok mixed [] [] (by kernel_rfl) (by kernel_rfl) (by simp [-List.getD_eq_getElem?_getD, -List.drop_one, ↓splitB_true, ↓splitB_false, go_sem, hA, hB, hC, hA', hB', hC']) ?_; simp  [-List.getD_eq_getElem?_getD, -List.drop_one, ↓splitB_true, ↓splitB_false, go_sem, hA, hB, hC, hA', hB', hC']
    | refine AW_region (id := 9) Γa17_ok [] (by kernel_rfl) ?_; simp  [-List.getD_eq_getElem?_getD, -List.drop_one, ↓splitB_true, ↓splitB_false, go_sem, hA, hB, hC]; try (refine AW_data hK 7 ?_; simp [go_sem])
    | refine AW_region (id := 10) Γa17_ok [] (by kernel_rfl) ?_; simp  [-List.getD_eq_getElem?_getD, -List.drop_one, ↓splitB_true, ↓splitB_false, go_sem, hA', hB', hC']; try (refine AW_data hK 8 ?_; simp [go_sem])
    | refine AW_region (id := 11) Γa17_ok [] (by kernel_rfl) ?_; simp  [-List.getD_eq_getElem?_getD, -List.drop_one, ↓splitB_true, ↓splitB_false, go_sem]
    | refine AW_region (id := 12) Γa17_ok [] (by kernel_rfl) ?_; simp  [-List.getD_eq_getElem?_getD, -List.drop_one, ↓splitB_true, ↓splitB_false, go_sem]
    | refine AW_region (id := 13) Γa17_ok [] (by kernel_rfl) ?_; simp  [-List.getD_eq_getElem?_getD, -List.drop_one, ↓splitB_true, ↓splitB_false, go_sem]
    | refine AW_region_draw (id := 14) Γa17_ok mixed [] [] (by kernel_rfl) (by kernel_rfl) (by simp [-List.getD_eq_getElem?_getD, -List.drop_one, ↓splitB_true, ↓splitB_false, go_sem, hA, hB, hC]) ?_; simp  [-List.getD_eq_getElem?_getD, -List.drop_one, ↓splitB_true, ↓splitB_false, go_sem, hA, hB, hC]
    | refine AW_region (id := 15) Γa17_ok [] (by kernel_rfl) ?_; simp  [-List.getD_eq_getElem?_getD, -List.drop_one, ↓splitB_true, ↓splitB_false, go_sem]
    | refine AW_region_draw (id := 16) Γa17_ok mixed [] [] (by kernel_rfl) (by kernel_rfl) (by simp [-List.getD_eq_getElem?_getD, -List.drop_one, ↓splitB_true, ↓splitB_false, go_sem, hA', hB', hC']) ?_; simp  [-List.getD_eq_getElem?_getD, -List.drop_one, ↓splitB_true, ↓splitB_false, go_sem, hA', hB', hC']
    | refine AW_region (id := 17) Γa17_ok [] (by kernel_rfl) ?_; simp  [-List.getD_eq_getElem?_getD, -List.drop_one, ↓splitB_true, ↓splitB_false, go_sem]
    | refine AW_region (id := 18) Γa17_ok [] (by kernel_rfl) ?_; simp  [-List.getD_eq_getElem?_getD, -List.drop_one, ↓splitB_true, ↓splitB_false, go_sem]
    | refine AW_condA (c := .tmp 14) ?_; simp [-List.getD_eq_getElem?_getD, -List.drop_one, ↓splitB_true, ↓splitB_false, go_sem]; try (refine ⟨fun c14 => ?_, fun c14 => ?_⟩ <;> (try simp [B_iff, B_not] at c14))
    | refine AW_condA (c := .tmp 19) ?_; simp [-List.getD_eq_getElem?_getD, -List.drop_one, ↓splitB_true, ↓splitB_false, go_sem]; try (refine ⟨fun c19 => ?_, fun c19 => ?_⟩ <;> (try simp [B_iff, B_not] at c19))
    | refine AW_condA (c := .tmp 34) ?_; simp [-List.getD_eq_getElem?_getD, -List.drop_one, ↓splitB_true, ↓splitB_false, go_sem]; try (refine ⟨fun c34 => ?_, fun c34 => ?_⟩ <;> (try simp [B_iff, B_not] at c34))
    | refine AW_condA (c := .tmp 39) ?_; simp [-List.getD_eq_getElem?_getD, -List.drop_one, ↓splitB_true, ↓splitB_false, go_sem]; try (refine ⟨fun c39 => ?_, fun c39 => ?_⟩ <;> (try simp [B_iff, B_not] at c39))
    | refine AW_condA (c := .tmp 44) ?_; simp [-List.getD_eq_getElem?_getD, -List.drop_one, ↓splitB_true, ↓splitB_false, go_sem]; try (refine ⟨fun c44 => ?_, fun c44 => ?_⟩ <;> (try simp [B_iff, B_not] at c44))
    | (refine AW_block ?_)
    | (refine AW_exit ?_; simp [-List.getD_eq_getElem?_getD, -List.drop_one, ↓splitB_true, ↓splitB_false, go_sem])
    | (refine AW_skip ?_; simp [-List.getD_eq_getElem?_getD, -List.drop_one, ↓splitB_true, ↓splitB_false, go_sem])
    | (refine AW_ret ?_; simp [-List.getD_eq_getElem?_getD, -List.drop_one, ↓splitB_true, ↓splitB_false, go_sem, Try.results3])
    | (intro hx; change AW _ _ _ _ _ _)
    | (intro hx; refine ⟨fun hs => ?_, fun hs => ?_⟩)
    | (refine ⟨fun hs => ?_, fun hs => ?_⟩)
    | (refine ⟨?_, fun hs => ?_⟩; change AW _ _ _ _ _ _)
    | (refine ⟨fun hs => ?_, ?_⟩; rotate_left; change AW _ _ _ _ _ _; rotate_left)))
end Go.Proofs.Ytcbhfdcohohmcaa.Vm

