import Derived.Test.YtkjimmkemnmajaaJ10
import Derived.Test.YtkjimmkemnmajaaTr
/-
  Automata: rows of Bools, of transitions; sz, to, eq. No conditions.
-/
namespace Go.Proofs.Ytkjimmkemnmajaa.Vm
open Go
open List renaming getD_eq_getElem?_getD → zgE, drop_one → zdO
set_option linter.unusedVariables false
set_option linter.unusedSimpArgs false
set_option maxRecDepth 200000

noncomputable def Γa1 : FuncId → Con := Γj4
attribute [go_sem] Γa1
theorem Γa1_ok : ∀ g, ConOk Try.prog g (Γa1 g) := Γj4_ok

noncomputable def Γa2 : FuncId → Con := Γa1
attribute [go_sem] Γa2
theorem Γa2_ok : ∀ g, ConOk Try.prog g (Γa2 g) := Γa1_ok

noncomputable def Γa3 : FuncId → Con := Γa2
attribute [go_sem] Γa3
theorem Γa3_ok : ∀ g, ConOk Try.prog g (Γa3 g) := Γa2_ok

noncomputable def Γa4 : FuncId → Con := Γa3
attribute [go_sem] Γa4
theorem Γa4_ok : ∀ g, ConOk Try.prog g (Γa4 g) := Γa3_ok

noncomputable def Γa5 : FuncId → Con := Γa4
attribute [go_sem] Γa5
theorem Γa5_ok : ∀ g, ConOk Try.prog g (Γa5 g) := Γa4_ok

noncomputable def Γa6 : FuncId → Con := Γa5
attribute [go_sem] Γa6
theorem Γa6_ok : ∀ g, ConOk Try.prog g (Γa6 g) := Γa5_ok

noncomputable def Γa7 : FuncId → Con := Γa6
attribute [go_sem] Γa7
theorem Γa7_ok : ∀ g, ConOk Try.prog g (Γa7 g) := Γa6_ok

noncomputable def Γa8 : FuncId → Con := Γa7
attribute [go_sem] Γa8
theorem Γa8_ok : ∀ g, ConOk Try.prog g (Γa8 g) := Γa7_ok

noncomputable def Γa9 : FuncId → Con := Γa8
attribute [go_sem] Γa9
theorem Γa9_ok : ∀ g, ConOk Try.prog g (Γa9 g) := Γa8_ok

noncomputable def Γa10 : FuncId → Con := Γa9
attribute [go_sem] Γa10
theorem Γa10_ok : ∀ g, ConOk Try.prog g (Γa10 g) := Γa9_ok

noncomputable def Γa11 : FuncId → Con := Γa10
attribute [go_sem] Γa11
theorem Γa11_ok : ∀ g, ConOk Try.prog g (Γa11 g) := Γa10_ok

theorem st4_tr : St4 Try.prog 75 := by
  refine ⟨by kernel_rfl, fun a b c d a' b' c' d' w => ?_⟩
  have hI := Try.underlying3
  have hS : Try.prog.underlying 75 = some (.struct (Try.prog.fieldsOf 75)) := by kernel_rfl
  have hp : Try.prog.stoodInHeld 75 = false := by kernel_rfl
  rw [show (10000 : Nat) = 9999 + 1 from rfl, run_equalIn_agg w 9999 _ _ _ hS hp]
  have hz : ∀ w, (sizeOf 3).run Try.prog w = .ok 1 w := run_size (P := Try.prog) (ty3)
  have ha : ∀ w, (isAgg 3).run Try.prog w = .ok false w := run_agg (P := Try.prog) (ty3)
  have hf : (Try.prog.fieldsOf 75).toList.map (fun f => (f.name, f.type, f.offset)) = [("From", 3, 0), ("Care", 3, 1), ("Value", 3, 2), ("To", 3, 3)] := by kernel_rfl
  simp only [Program.fieldsOf, Try.underlying75]
  simp [Op.eqFields, part, ha, run_equalIn_int w 9998 _ _ _ _ _ hI]
  by_cases h1 : a = a' <;> by_cases h2 : b = b' <;> by_cases h3 : c = c' <;> by_cases h4 : d = d' <;> simp [h1, h2, h3, h4]
@[go_sem] theorem st4_on : St4 Try.prog 75 = True := eq_true st4_tr

theorem l2IntsA_pure (xs : List Int) (ys : List Int)  : Pure Try.prog 115 [li cI xs, li cI ys] (.bool (decide (xs = ys))) := by
  refine Pure.of_walk Try.func115 rfl (by simp [Try.f115]) (by simp [-zdO, go_sem]) fun B hK => ?_
  (repeat' (first
    | refine AW_seq ?_
    | (refine AW_len 0 rfl fun hm => ?_); refine zaac (id := 0) Γa11_ok [] (by kernel_rfl) ?_; simp  [-zgE, -zdO, ↓zaab, ↓zaaa, go_sem]
    | refine zaac (id := 1) Γa11_ok [] (by kernel_rfl) ?_; simp  [-zgE, -zdO, ↓zaab, ↓zaaa, go_sem]
    | refine zaac (id := 2) Γa11_ok [] (by kernel_rfl) ?_; simp  [-zgE, -zdO, ↓zaab, ↓zaaa, go_sem]
    | refine zaac (id := 3) Γa11_ok [] (by kernel_rfl) ?_; simp  [-zgE, -zdO, ↓zaab, ↓zaaa, go_sem]
    | refine zaac (id := 4) Γa11_ok [] (by kernel_rfl) ?_; simp  [-zgE, -zdO, ↓zaab, ↓zaaa, go_sem]
    | (have cy : k < ys.length := by omega); refine zaat (id := 6) Γa11_ok mixed [] [5] (by kernel_rfl) (by kernel_rfl) (by simp [-zgE, -zdO, ↓zaab, ↓zaaa, go_sem, c14, zaau c14, Nat.sub_pos_of_lt c14, cy, zaau cy, Nat.sub_pos_of_lt cy]) ?_; simp  [-zgE, -zdO, ↓zaab, ↓zaaa, go_sem, c14, zaau c14, Nat.sub_pos_of_lt c14, cy, zaau cy, Nat.sub_pos_of_lt cy]
    | refine zaac (id := 7) Γa11_ok [] (by kernel_rfl) ?_; simp  [-zgE, -zdO, ↓zaab, ↓zaaa, go_sem]
    | refine zaac (id := 5) Γa11_ok [] (by kernel_rfl) ?_; simp  [-zgE, -zdO, ↓zaab, ↓zaaa, go_sem, wrapS (k := k) (by omega)]
    | refine zaac (id := 8) Γa11_ok [] (by kernel_rfl) ?_; simp  [-zgE, -zdO, ↓zaab, ↓zaaa, go_sem]
    | refine zaad (c := .tmp 10) ?_; simp [-zgE, -zdO, ↓zaab, ↓zaaa, go_sem]; try first | (refine ⟨?_, ?_⟩ <;> change AW _ _ _ _ _ _) | (refine ⟨fun c10 => ?_, fun c10 => ?_⟩ <;> (try simp [B_iff, B_not] at c10))
    | refine zaad (c := .tmp 14) ?_; simp [-zgE, -zdO, ↓zaab, ↓zaaa, go_sem]; try first | (refine ⟨?_, ?_⟩ <;> change AW _ _ _ _ _ _) | (refine ⟨fun c14 => ?_, fun c14 => ?_⟩ <;> (try simp [B_iff, B_not] at c14))
    | refine zaad (c := .tmp 25) ?_; simp [-zgE, -zdO, ↓zaab, ↓zaaa, go_sem]; try first | (refine ⟨?_, ?_⟩ <;> change AW _ _ _ _ _ _) | (refine ⟨fun c25 => ?_, fun c25 => ?_⟩ <;> (try simp [B_iff, B_not] at c25))
    | (refine zaag (id := 0) (AW_loop (ι := Nat) (fun k : Nat => ⟨(upd (upd (upd (fun _ => .any) 0 (li cI xs)) 1 (li cI ys)) 5 (.int .i64 k)), fun _ => none⟩) (fun k => k ≤ xs.length ∧ NoneTill (neAt xs ys) k) (fun k => xs.length - k) (0) ?_ ?_ ?_); exact ⟨Nat.zero_le _, .zero _⟩; ((repeat' (first | exact zaae (by assumption) | exact zaai | refine zaam ?_ ?_ | refine zaaf ?_)) <;> simp [-zgE, -zdO, ↓zaab, ↓zaaa, go_sem]); rintro k ⟨hk, ht⟩)
    | (refine ⟨k + 1, ⟨by omega, ht.succ (by simp [neAt]; first | exact c25 | (apply Prod.ext <;> simp_all; done) | (simp_all [Prod.ext_iff]; done) | simp_all)⟩, by first | omega | (simp; done) | (simp; omega), ?_⟩; ((repeat' (first | exact zaae (by assumption) | exact zaai | refine zaam ?_ ?_ | refine zaaf ?_)) <;> simp [-zgE, -zdO, ↓zaab, ↓zaaa, go_sem]))
    | (refine zaag ?_)
    | (refine zaap ?_; simp [-zgE, -zdO, ↓zaab, ↓zaaa, go_sem])
    | (refine zaao ?_; simp [-zgE, -zdO, ↓zaab, ↓zaaa, go_sem])
    | (refine AW_ret ?_; simp [-zgE, -zdO, ↓zaab, ↓zaaa, go_sem, Try.results115])
    | (intro hx; change AW _ _ _ _ _ _)
    | (refine ⟨?_, ?_⟩ <;> change AW _ _ _ _ _ _)
    | (intro hx; refine ⟨fun hs => ?_, fun hs => ?_⟩)
    | (refine ⟨fun hs => ?_, fun hs => ?_⟩)
    | (refine ⟨?_, fun hs => ?_⟩; change AW _ _ _ _ _ _)
    | (refine ⟨fun hs => ?_, ?_⟩; rotate_left; change AW _ _ _ _ _ _; rotate_left)))
  all_goals (first
    | (rintro rfl; simp at c10; done)
    | (rintro rfl; simp at c25; done)
    | exact eq_of_none (by omega) ht (by omega)
    | skip)
noncomputable def l2IntsA_pureC : Con := .pure fun
  | [.list n_xs c_xs, .list n_ys c_ys] => ((Is cI n_xs c_xs) ∧ (Is cI n_ys c_ys), .bool (decide ((de cI c_xs) = (de cI c_ys))))
  | _ => (False, .any)
attribute [go_sem] l2IntsA_pureC
theorem l2IntsA_pureC_ok : ConOk Try.prog 115 l2IntsA_pureC := by
  refine ⟨zaal Try.func115 (by decide) rfl, fun args h => ?_⟩
  revert h
  dsimp only
  split
  · intro h
    obtain ⟨⟨xs, rfl, rfl⟩, ⟨ys, rfl, rfl⟩⟩ := h
    try simp only [de_cat] at *
    exact ⟨l2IntsA_pure xs ys, by simp [go_sem]⟩
  · intro h
    exact h.elim
noncomputable def Γa12 : FuncId → Con := ext Γa11 115 l2IntsA_pureC
attribute [go_sem] Γa12
theorem Γa12_ok : ∀ g, ConOk Try.prog g (Γa12 g) := zaaw Γa11_ok l2IntsA_pureC_ok

theorem sEqI_pure (xs : List Int) (ys : List Int)  : Pure Try.prog 118 [li cI xs, li cI ys] (.bool (decide (xs = ys))) := by
  refine Pure.of_walk Try.func118 rfl (by simp [Try.f118]) (by simp [-zdO, go_sem]) fun B hK => ?_
  (repeat' (first
    | refine AW_seq ?_
    | (refine AW_len 0 rfl fun hm => ?_); refine zaac (id := 0) Γa12_ok [] (by kernel_rfl) ?_; simp  [-zgE, -zdO, ↓zaab, ↓zaaa, go_sem]
    | refine zaac (id := 1) Γa12_ok [] (by kernel_rfl) ?_; simp  [-zgE, -zdO, ↓zaab, ↓zaaa, go_sem]
    | refine zaac (id := 2) Γa12_ok [] (by kernel_rfl) ?_; simp  [-zgE, -zdO, ↓zaab, ↓zaaa, go_sem]
    | refine zaac (id := 3) Γa12_ok [] (by kernel_rfl) ?_; simp  [-zgE, -zdO, ↓zaab, ↓zaaa, go_sem]
    | refine zaac (id := 4) Γa12_ok [] (by kernel_rfl) ?_; simp  [-zgE, -zdO, ↓zaab, ↓zaaa, go_sem]
    | refine zaac (id := 5) Γa12_ok [] (by kernel_rfl) ?_; simp  [-zgE, -zdO, ↓zaab, ↓zaaa, go_sem, c14, zaau c14, Nat.sub_pos_of_lt c14]
    | (have cy : k < ys.length := by omega); refine zaat (id := 6) Γa12_ok mixed [] [5] (by kernel_rfl) (by kernel_rfl) (by simp [-zgE, -zdO, ↓zaab, ↓zaaa, go_sem, c14, zaau c14, Nat.sub_pos_of_lt c14, cy, zaau cy, Nat.sub_pos_of_lt cy]) ?_; simp  [-zgE, -zdO, ↓zaab, ↓zaaa, go_sem, c14, zaau c14, Nat.sub_pos_of_lt c14, cy, zaau cy, Nat.sub_pos_of_lt cy]
    | refine zaac (id := 7) Γa12_ok [] (by kernel_rfl) ?_; simp  [-zgE, -zdO, ↓zaab, ↓zaaa, go_sem]
    | refine zaac (id := 8) Γa12_ok [] (by kernel_rfl) ?_; simp  [-zgE, -zdO, ↓zaab, ↓zaaa, go_sem, wrapS (k := k) (by omega)]
    | refine zaac (id := 9) Γa12_ok [] (by kernel_rfl) ?_; simp  [-zgE, -zdO, ↓zaab, ↓zaaa, go_sem]
    | refine zaad (c := .tmp 10) ?_; simp [-zgE, -zdO, ↓zaab, ↓zaaa, go_sem]; try first | (refine ⟨?_, ?_⟩ <;> change AW _ _ _ _ _ _) | (refine ⟨fun c10 => ?_, fun c10 => ?_⟩ <;> (try simp [B_iff, B_not] at c10))
    | refine zaad (c := .tmp 14) ?_; simp [-zgE, -zdO, ↓zaab, ↓zaaa, go_sem]; try first | (refine ⟨?_, ?_⟩ <;> change AW _ _ _ _ _ _) | (refine ⟨fun c14 => ?_, fun c14 => ?_⟩ <;> (try simp [B_iff, B_not] at c14))
    | refine zaad (c := .tmp 24) ?_; simp [-zgE, -zdO, ↓zaab, ↓zaaa, go_sem]; try first | (refine ⟨?_, ?_⟩ <;> change AW _ _ _ _ _ _) | (refine ⟨fun c24 => ?_, fun c24 => ?_⟩ <;> (try simp [B_iff, B_not] at c24))
    | (refine zaag (id := 0) (AW_loop (ι := Nat) (fun k : Nat => ⟨(upd (upd (upd (upd (upd (fun _ => .any) 0 (li cI xs)) 1 (li cI ys)) 11 (li cI xs)) 12 (.int .i64 xs.length)) 13 (.int .i64 k)), fun _ => none⟩) (fun k => k ≤ xs.length ∧ NoneTill (neAt xs ys) k) (fun k => xs.length - k) (0) ?_ ?_ ?_); exact ⟨Nat.zero_le _, .zero _⟩; ((repeat' (first | exact zaae (by assumption) | exact zaai | refine zaam ?_ ?_ | refine zaaf ?_)) <;> simp [-zgE, -zdO, ↓zaab, ↓zaaa, go_sem]); rintro k ⟨hk, ht⟩)
    | (refine ⟨k + 1, ⟨by omega, ht.succ (by simp [neAt]; first | exact c24 | (simp_all [Prod.ext_iff]; done) | simp_all)⟩, by first | omega | (simp; done) | (simp; omega), ?_⟩; ((repeat' (first | exact zaae (by assumption) | exact zaai | refine zaam ?_ ?_ | refine zaaf ?_)) <;> simp [-zgE, -zdO, ↓zaab, ↓zaaa, go_sem]))
    | (refine zaag ?_)
    | (refine zaap ?_; simp [-zgE, -zdO, ↓zaab, ↓zaaa, go_sem])
    | (refine zaao ?_; simp [-zgE, -zdO, ↓zaab, ↓zaaa, go_sem])
    | (refine AW_ret ?_; simp [-zgE, -zdO, ↓zaab, ↓zaaa, go_sem, Try.results118])
    | (intro hx; change AW _ _ _ _ _ _)
    | (refine ⟨?_, ?_⟩ <;> change AW _ _ _ _ _ _)
    | (intro hx; refine ⟨fun hs => ?_, fun hs => ?_⟩)
    | (refine ⟨fun hs => ?_, fun hs => ?_⟩)
    | (refine ⟨?_, fun hs => ?_⟩; change AW _ _ _ _ _ _)
    | (refine ⟨fun hs => ?_, ?_⟩; rotate_left; change AW _ _ _ _ _ _; rotate_left)))
  all_goals (first
    | (rintro rfl; simp at c10; done)
    | (rintro rfl; simp at c24; done)
    | (rintro rfl; exact c24 rfl)
    | exact eq_of_none (by omega) ht (by omega)
    | skip)
noncomputable def sEqI_pureC : Con := .pure fun
  | [.list n_xs c_xs, .list n_ys c_ys] => ((Is cI n_xs c_xs) ∧ (Is cI n_ys c_ys), .bool (decide ((de cI c_xs) = (de cI c_ys))))
  | _ => (False, .any)
attribute [go_sem] sEqI_pureC
theorem sEqI_pureC_ok : ConOk Try.prog 118 sEqI_pureC := by
  refine ⟨zaal Try.func118 (by decide) rfl, fun args h => ?_⟩
  revert h
  dsimp only
  split
  · intro h
    obtain ⟨⟨xs, rfl, rfl⟩, ⟨ys, rfl, rfl⟩⟩ := h
    try simp only [de_cat] at *
    exact ⟨sEqI_pure xs ys, by simp [go_sem]⟩
  · intro h
    exact h.elim
noncomputable def Γa13 : FuncId → Con := ext Γa12 118 sEqI_pureC
attribute [go_sem] Γa13
theorem Γa13_ok : ∀ g, ConOk Try.prog g (Γa13 g) := zaaw Γa12_ok sEqI_pureC_ok

theorem sEqB_pure (xs : List Bool) (ys : List Bool)  : Pure Try.prog 135 [li cB xs, li cB ys] (.bool (decide (xs = ys))) := by
  refine Pure.of_walk Try.func135 rfl (by simp [Try.f135]) (by simp [-zdO, go_sem]) fun B hK => ?_
  (repeat' (first
    | refine AW_seq ?_
    | (refine AW_len 0 rfl fun hm => ?_); refine zaac (id := 0) Γa13_ok [] (by kernel_rfl) ?_; simp  [-zgE, -zdO, ↓zaab, ↓zaaa, go_sem]
    | refine zaac (id := 1) Γa13_ok [] (by kernel_rfl) ?_; simp  [-zgE, -zdO, ↓zaab, ↓zaaa, go_sem]
    | refine zaac (id := 2) Γa13_ok [] (by kernel_rfl) ?_; simp  [-zgE, -zdO, ↓zaab, ↓zaaa, go_sem]
    | refine zaac (id := 3) Γa13_ok [] (by kernel_rfl) ?_; simp  [-zgE, -zdO, ↓zaab, ↓zaaa, go_sem]
    | refine zaac (id := 4) Γa13_ok [] (by kernel_rfl) ?_; simp  [-zgE, -zdO, ↓zaab, ↓zaaa, go_sem]
    | refine zaac (id := 5) Γa13_ok [] (by kernel_rfl) ?_; simp  [-zgE, -zdO, ↓zaab, ↓zaaa, go_sem, c14, zaau c14, Nat.sub_pos_of_lt c14]
    | (have cy : k < ys.length := by omega); refine zaat (id := 6) Γa13_ok mixed [] [5] (by kernel_rfl) (by kernel_rfl) (by simp [-zgE, -zdO, ↓zaab, ↓zaaa, go_sem, c14, zaau c14, Nat.sub_pos_of_lt c14, cy, zaau cy, Nat.sub_pos_of_lt cy]) ?_; simp  [-zgE, -zdO, ↓zaab, ↓zaaa, go_sem, c14, zaau c14, Nat.sub_pos_of_lt c14, cy, zaau cy, Nat.sub_pos_of_lt cy]
    | refine zaac (id := 7) Γa13_ok [] (by kernel_rfl) ?_; simp  [-zgE, -zdO, ↓zaab, ↓zaaa, go_sem]
    | refine zaac (id := 8) Γa13_ok [] (by kernel_rfl) ?_; simp  [-zgE, -zdO, ↓zaab, ↓zaaa, go_sem, wrapS (k := k) (by omega)]
    | refine zaac (id := 9) Γa13_ok [] (by kernel_rfl) ?_; simp  [-zgE, -zdO, ↓zaab, ↓zaaa, go_sem]
    | refine zaad (c := .tmp 10) ?_; simp [-zgE, -zdO, ↓zaab, ↓zaaa, go_sem]; try first | (refine ⟨?_, ?_⟩ <;> change AW _ _ _ _ _ _) | (refine ⟨fun c10 => ?_, fun c10 => ?_⟩ <;> (try simp [B_iff, B_not] at c10))
    | refine zaad (c := .tmp 14) ?_; simp [-zgE, -zdO, ↓zaab, ↓zaaa, go_sem]; try first | (refine ⟨?_, ?_⟩ <;> change AW _ _ _ _ _ _) | (refine ⟨fun c14 => ?_, fun c14 => ?_⟩ <;> (try simp [B_iff, B_not] at c14))
    | refine zaad (c := .tmp 24) ?_; simp [-zgE, -zdO, ↓zaab, ↓zaaa, go_sem]; try first | (refine ⟨?_, ?_⟩ <;> change AW _ _ _ _ _ _) | (refine ⟨fun c24 => ?_, fun c24 => ?_⟩ <;> (try simp [B_iff, B_not] at c24))
    | (refine zaag (id := 0) (AW_loop (ι := Nat) (fun k : Nat => ⟨(upd (upd (upd (upd (upd (fun _ => .any) 0 (li cB xs)) 1 (li cB ys)) 11 (li cB xs)) 12 (.int .i64 xs.length)) 13 (.int .i64 k)), fun _ => none⟩) (fun k => k ≤ xs.length ∧ NoneTill (neAt xs ys) k) (fun k => xs.length - k) (0) ?_ ?_ ?_); exact ⟨Nat.zero_le _, .zero _⟩; ((repeat' (first | exact zaae (by assumption) | exact zaai | refine zaam ?_ ?_ | refine zaaf ?_)) <;> simp [-zgE, -zdO, ↓zaab, ↓zaaa, go_sem]); rintro k ⟨hk, ht⟩)
    | (refine ⟨k + 1, ⟨by omega, ht.succ (by simp [neAt]; first | exact c24 | (simp_all [Prod.ext_iff]; done) | simp_all)⟩, by first | omega | (simp; done) | (simp; omega), ?_⟩; ((repeat' (first | exact zaae (by assumption) | exact zaai | refine zaam ?_ ?_ | refine zaaf ?_)) <;> simp [-zgE, -zdO, ↓zaab, ↓zaaa, go_sem]))
    | (refine zaag ?_)
    | (refine zaap ?_; simp [-zgE, -zdO, ↓zaab, ↓zaaa, go_sem])
    | (refine zaao ?_; simp [-zgE, -zdO, ↓zaab, ↓zaaa, go_sem])
    | (refine AW_ret ?_; simp [-zgE, -zdO, ↓zaab, ↓zaaa, go_sem, Try.results135])
    | (intro hx; change AW _ _ _ _ _ _)
    | (refine ⟨?_, ?_⟩ <;> change AW _ _ _ _ _ _)
    | (intro hx; refine ⟨fun hs => ?_, fun hs => ?_⟩)
    | (refine ⟨fun hs => ?_, fun hs => ?_⟩)
    | (refine ⟨?_, fun hs => ?_⟩; change AW _ _ _ _ _ _)
    | (refine ⟨fun hs => ?_, ?_⟩; rotate_left; change AW _ _ _ _ _ _; rotate_left)))
  all_goals (first
    | (rintro rfl; simp at c10; done)
    | (rintro rfl; simp at c24; done)
    | (rintro rfl; exact c24 rfl)
    | exact eq_of_none (by omega) ht (by omega)
    | skip)
noncomputable def sEqB_pureC : Con := .pure fun
  | [.list n_xs c_xs, .list n_ys c_ys] => ((Is cB n_xs c_xs) ∧ (Is cB n_ys c_ys), .bool (decide ((de cB c_xs) = (de cB c_ys))))
  | _ => (False, .any)
attribute [go_sem] sEqB_pureC
theorem sEqB_pureC_ok : ConOk Try.prog 135 sEqB_pureC := by
  refine ⟨zaal Try.func135 (by decide) rfl, fun args h => ?_⟩
  revert h
  dsimp only
  split
  · intro h
    obtain ⟨⟨xs, rfl, rfl⟩, ⟨ys, rfl, rfl⟩⟩ := h
    try simp only [de_cat] at *
    exact ⟨sEqB_pure xs ys, by simp [go_sem]⟩
  · intro h
    exact h.elim
noncomputable def Γa14 : FuncId → Con := ext Γa13 135 sEqB_pureC
attribute [go_sem] Γa14
theorem Γa14_ok : ∀ g, ConOk Try.prog g (Γa14 g) := zaaw Γa13_ok sEqB_pureC_ok

theorem sEqT_pure (xs : List Tr4) (ys : List Tr4)  : Pure Try.prog 136 [li cT xs, li cT ys] (.bool (decide (xs = ys))) := by
  refine Pure.of_walk Try.func136 rfl (by simp [Try.f136]) (by simp [-zdO, go_sem]) fun B hK => ?_
  (repeat' (first
    | refine AW_seq ?_
    | (refine AW_len 0 rfl fun hm => ?_); refine zaac (id := 0) Γa14_ok [] (by kernel_rfl) ?_; simp  [-zgE, -zdO, ↓zaab, ↓zaaa, go_sem]
    | refine zaac (id := 1) Γa14_ok [] (by kernel_rfl) ?_; simp  [-zgE, -zdO, ↓zaab, ↓zaaa, go_sem]
    | refine zaac (id := 2) Γa14_ok [] (by kernel_rfl) ?_; simp  [-zgE, -zdO, ↓zaab, ↓zaaa, go_sem]
    | refine zaac (id := 3) Γa14_ok [] (by kernel_rfl) ?_; simp  [-zgE, -zdO, ↓zaab, ↓zaaa, go_sem]
    | refine zaac (id := 4) Γa14_ok [] (by kernel_rfl) ?_; simp  [-zgE, -zdO, ↓zaab, ↓zaaa, go_sem]
    | refine zaac (id := 5) Γa14_ok [] (by kernel_rfl) ?_; simp  [-zgE, -zdO, ↓zaab, ↓zaaa, go_sem, c14, zaau c14, Nat.sub_pos_of_lt c14]
    | (have cy : k < ys.length := by omega); refine zaat (id := 6) Γa14_ok mixed [] [5] (by kernel_rfl) (by kernel_rfl) (by simp [-zgE, -zdO, ↓zaab, ↓zaaa, go_sem, c14, zaau c14, Nat.sub_pos_of_lt c14, cy, zaau cy, Nat.sub_pos_of_lt cy]) ?_; simp  [-zgE, -zdO, ↓zaab, ↓zaaa, go_sem, c14, zaau c14, Nat.sub_pos_of_lt c14, cy, zaau cy, Nat.sub_pos_of_lt cy]
    | refine zaac (id := 7) Γa14_ok [] (by kernel_rfl) ?_; simp  [-zgE, -zdO, ↓zaab, ↓zaaa, go_sem]
    | refine zaac (id := 8) Γa14_ok [] (by kernel_rfl) ?_; simp  [-zgE, -zdO, ↓zaab, ↓zaaa, go_sem, wrapS (k := k) (by omega)]
    | refine zaac (id := 9) Γa14_ok [] (by kernel_rfl) ?_; simp  [-zgE, -zdO, ↓zaab, ↓zaaa, go_sem]
    | refine zaad (c := .tmp 10) ?_; simp [-zgE, -zdO, ↓zaab, ↓zaaa, go_sem]; try first | (refine ⟨?_, ?_⟩ <;> change AW _ _ _ _ _ _) | (refine ⟨fun c10 => ?_, fun c10 => ?_⟩ <;> (try simp [B_iff, B_not] at c10))
    | refine zaad (c := .tmp 14) ?_; simp [-zgE, -zdO, ↓zaab, ↓zaaa, go_sem]; try first | (refine ⟨?_, ?_⟩ <;> change AW _ _ _ _ _ _) | (refine ⟨fun c14 => ?_, fun c14 => ?_⟩ <;> (try simp [B_iff, B_not] at c14))
    | refine zaad (c := .tmp 24) ?_; simp [-zgE, -zdO, ↓zaab, ↓zaaa, go_sem]; try first | (refine ⟨?_, ?_⟩ <;> change AW _ _ _ _ _ _) | (refine ⟨fun c24 => ?_, fun c24 => ?_⟩ <;> (try simp [B_iff, B_not] at c24))
    | (refine zaag (id := 0) (AW_loop (ι := Nat) (fun k : Nat => ⟨(upd (upd (upd (upd (upd (fun _ => .any) 0 (li cT xs)) 1 (li cT ys)) 11 (li cT xs)) 12 (.int .i64 xs.length)) 13 (.int .i64 k)), fun _ => none⟩) (fun k => k ≤ xs.length ∧ NoneTill (neAt xs ys) k) (fun k => xs.length - k) (0) ?_ ?_ ?_); exact ⟨Nat.zero_le _, .zero _⟩; ((repeat' (first | exact zaae (by assumption) | exact zaai | refine zaam ?_ ?_ | refine zaaf ?_)) <;> simp [-zgE, -zdO, ↓zaab, ↓zaaa, go_sem]); rintro k ⟨hk, ht⟩)
    | (refine ⟨k + 1, ⟨by omega, ht.succ (by simp [neAt]; first | exact c24 | (simp_all [Prod.ext_iff]; done) | simp_all)⟩, by first | omega | (simp; done) | (simp; omega), ?_⟩; ((repeat' (first | exact zaae (by assumption) | exact zaai | refine zaam ?_ ?_ | refine zaaf ?_)) <;> simp [-zgE, -zdO, ↓zaab, ↓zaaa, go_sem]))
    | (refine zaag ?_)
    | (refine zaap ?_; simp [-zgE, -zdO, ↓zaab, ↓zaaa, go_sem])
    | (refine zaao ?_; simp [-zgE, -zdO, ↓zaab, ↓zaaa, go_sem])
    | (refine AW_ret ?_; simp [-zgE, -zdO, ↓zaab, ↓zaaa, go_sem, Try.results136])
    | (intro hx; change AW _ _ _ _ _ _)
    | (refine ⟨?_, ?_⟩ <;> change AW _ _ _ _ _ _)
    | (intro hx; refine ⟨fun hs => ?_, fun hs => ?_⟩)
    | (refine ⟨fun hs => ?_, fun hs => ?_⟩)
    | (refine ⟨?_, fun hs => ?_⟩; change AW _ _ _ _ _ _)
    | (refine ⟨fun hs => ?_, ?_⟩; rotate_left; change AW _ _ _ _ _ _; rotate_left)))
  all_goals (first
    | (rintro rfl; simp at c10; done)
    | (rintro rfl; simp at c24; done)
    | (rintro rfl; exact c24 rfl)
    | exact eq_of_none (by omega) ht (by omega)
    | skip)
noncomputable def sEqT_pureC : Con := .pure fun
  | [.list n_xs c_xs, .list n_ys c_ys] => ((Is cT n_xs c_xs) ∧ (Is cT n_ys c_ys), .bool (decide ((de cT c_xs) = (de cT c_ys))))
  | _ => (False, .any)
attribute [go_sem] sEqT_pureC
theorem sEqT_pureC_ok : ConOk Try.prog 136 sEqT_pureC := by
  refine ⟨zaal Try.func136 (by decide) rfl, fun args h => ?_⟩
  revert h
  dsimp only
  split
  · intro h
    obtain ⟨⟨xs, rfl, rfl⟩, ⟨ys, rfl, rfl⟩⟩ := h
    try simp only [de_cat] at *
    exact ⟨sEqT_pure xs ys, by simp [go_sem]⟩
  · intro h
    exact h.elim
noncomputable def Γa15 : FuncId → Con := ext Γa14 136 sEqT_pureC
attribute [go_sem] Γa15
theorem Γa15_ok : ∀ g, ConOk Try.prog g (Γa15 g) := zaaw Γa14_ok sEqT_pureC_ok

theorem implAutomatonSame_pure (a : List Int) (b : List Bool) (c : List Tr4) (a' : List Int) (b' : List Bool) (c' : List Tr4)  : Pure Try.prog 49 [.st [li cI a, li cB b, li cT c], .st [li cI a', li cB b', li cT c']] (.bool (decide (a = a') && decide (b = b') && decide (c = c'))) := by
  refine Pure.of_walk Try.func49 rfl (by simp [Try.f49]) (by simp [-zdO, go_sem]) fun B hK => ?_
  (repeat' (first
    | refine AW_seq ?_
    | refine zaac (id := 0) Γa15_ok [] (by kernel_rfl) ?_; simp  [-zgE, -zdO, ↓zaab, ↓zaaa, go_sem]; try (refine AW_data hK 2 ?_; simp [go_sem]; refine AW_data hK 3 ?_; simp [go_sem])
    | refine zaac (id := 1) Γa15_ok [10, 17] (by kernel_rfl) ?_; simp  [-zgE, -zdO, ↓zaab, ↓zaaa, go_sem]; try (refine ⟨fun s1a => ?_, fun s1a => ?_⟩ <;> (try simp [B_iff, B_not] at s1a) <;> try (refine ⟨fun s1b => ?_, fun s1b => ?_⟩ <;> (try simp [B_iff, B_not] at s1b) <;> try (refine ⟨fun s1c => ?_, fun s1c => ?_⟩ <;> (try simp [B_iff, B_not] at s1c))))
    | (refine zaag ?_)
    | (refine zaap ?_; simp [-zgE, -zdO, ↓zaab, ↓zaaa, go_sem])
    | (refine zaao ?_; simp [-zgE, -zdO, ↓zaab, ↓zaaa, go_sem])
    | (refine AW_ret ?_; simp [-zgE, -zdO, ↓zaab, ↓zaaa, go_sem, Try.results49])
    | (intro hx; change AW _ _ _ _ _ _)
    | (refine ⟨?_, ?_⟩ <;> change AW _ _ _ _ _ _)
    | (intro hx; refine ⟨fun hs => ?_, fun hs => ?_⟩)
    | (refine ⟨fun hs => ?_, fun hs => ?_⟩)
    | (refine ⟨?_, fun hs => ?_⟩; change AW _ _ _ _ _ _)
    | (refine ⟨fun hs => ?_, ?_⟩; rotate_left; change AW _ _ _ _ _ _; rotate_left)))
  all_goals (first
    | (simp_all; done)
    | (intros; simp_all; done)
    | skip)
noncomputable def implAutomatonSame_pureC : Con := .pure fun
  | [.st [.list n_a c_a, .list n_b c_b, .list n_c c_c], .st [.list n_a' c_a', .list n_b' c_b', .list n_c' c_c']] => ((Is cI n_a c_a) ∧ (Is cB n_b c_b) ∧ (Is cT n_c c_c) ∧ (Is cI n_a' c_a') ∧ (Is cB n_b' c_b') ∧ (Is cT n_c' c_c'), .bool (decide ((de cI c_a) = (de cI c_a')) && decide ((de cB c_b) = (de cB c_b')) && decide ((de cT c_c) = (de cT c_c'))))
  | _ => (False, .any)
attribute [go_sem] implAutomatonSame_pureC
theorem implAutomatonSame_pureC_ok : ConOk Try.prog 49 implAutomatonSame_pureC := by
  refine ⟨zaal Try.func49 (by decide) rfl, fun args h => ?_⟩
  revert h
  dsimp only
  split
  · intro h
    obtain ⟨⟨a, rfl, rfl⟩, ⟨b, rfl, rfl⟩, ⟨c, rfl, rfl⟩, ⟨a', rfl, rfl⟩, ⟨b', rfl, rfl⟩, ⟨c', rfl, rfl⟩⟩ := h
    try simp only [de_cat] at *
    exact ⟨implAutomatonSame_pure a b c a' b' c', by simp [go_sem]⟩
  · intro h
    exact h.elim
noncomputable def Γa16 : FuncId → Con := ext Γa15 49 implAutomatonSame_pureC
attribute [go_sem] Γa16
theorem Γa16_ok : ∀ g, ConOk Try.prog g (Γa16 g) := zaaw Γa15_ok implAutomatonSame_pureC_ok

noncomputable def Γa17 : FuncId → Con := Γa16
attribute [go_sem] Γa17
theorem Γa17_ok : ∀ g, ConOk Try.prog g (Γa17 g) := Γa16_ok


theorem bits_iff (a b : BitVec 64) : a &&& b = a ↔ a &&& ~~~b = 0#64 := by
  constructor
  · intro h
    apply BitVec.eq_of_getLsbD_eq
    intro i hi
    have := congrArg (fun x => x.getLsbD i) h
    simp only [BitVec.getLsbD_and] at this
    simp only [BitVec.getLsbD_and, BitVec.getLsbD_not, BitVec.getLsbD_zero]
    cases h1 : a.getLsbD i <;> cases h2 : b.getLsbD i <;> simp_all
  · intro h
    apply BitVec.eq_of_getLsbD_eq
    intro i hi
    have := congrArg (fun x => x.getLsbD i) h
    simp only [BitVec.getLsbD_and, BitVec.getLsbD_not, BitVec.getLsbD_zero] at this
    simp only [BitVec.getLsbD_and]
    cases h1 : a.getLsbD i <;> cases h2 : b.getLsbD i <;> simp_all
theorem bits_same {v c : Int} (h0 : 0 ≤ v) (h1 : v ≤ 9223372036854775807) : (bitsD .and .i64 v c = v) = (bitsD .andNot .i64 v c = 0) := by
  have key : ∀ x : BitVec 64, x.toNat ≤ v.toNat → IntKind.i64.wrap (x.toNat : Int) = x.toNat := fun x hx => zaan (by omega) (by omega)
  have hv : (BitVec.ofInt 64 v).toNat = v.toNat := by
    rw [BitVec.toNat_ofInt]
    have : v % ((2 ^ 64 : Nat) : Int) = v := Int.emod_eq_of_lt h0 (by omega)
    rw [this]
  have k1 : (BitVec.ofInt 64 v &&& BitVec.ofInt 64 c).toNat ≤ v.toNat := by rw [BitVec.toNat_and, hv]; exact Nat.and_le_left
  have k2 : (BitVec.ofInt 64 v &&& ~~~ BitVec.ofInt 64 c).toNat ≤ v.toNat := by rw [BitVec.toNat_and, hv]; exact Nat.and_le_left
  have e1 : bitsD .and .i64 v c = ((BitVec.ofInt 64 v &&& BitVec.ofInt 64 c).toNat : Int) := key _ k1
  have e2 : bitsD .andNot .i64 v c = ((BitVec.ofInt 64 v &&& ~~~ BitVec.ofInt 64 c).toNat : Int) := key _ k2
  rw [e1, e2, eq_iff_iff]
  have b := bits_iff (BitVec.ofInt 64 v) (BitVec.ofInt 64 c)
  constructor
  · intro h
    have : BitVec.ofInt 64 v &&& BitVec.ofInt 64 c = BitVec.ofInt 64 v := BitVec.eq_of_toNat_eq (by rw [hv]; omega)
    rw [b.1 this]; rfl
  · intro h
    have q : (BitVec.ofInt 64 v &&& ~~~ BitVec.ofInt 64 c).toNat = 0 := by omega
    have : BitVec.ofInt 64 v &&& ~~~ BitVec.ofInt 64 c = 0#64 := BitVec.eq_of_toNat_eq (q.trans rfl)
    rw [b.2 this, hv]; omega

def EdgeOk (e : Tr4) (n : Int) : Prop := 0 ≤ e.1 ∧ e.1 < n ∧ 0 ≤ e.2.2.2 ∧ e.2.2.2 < n ∧ 0 ≤ e.2.1 ∧ e.2.1 ≤ 7 ∧ 0 ≤ e.2.2.1 ∧ bitsD .and .i64 e.2.2.1 e.2.1 = e.2.2.1

set_option maxHeartbeats 2000000 in

theorem l7Edge_pure (p : Int) (q : Int) (r : Int) (s : Int) (n : Int)  : Pure Try.prog 159 [.st [.int .i64 p, .int .i64 q, .int .i64 r, .int .i64 s], .int .i64 n] (.bool (B (EdgeOk (p, q, r, s) n))) := by
  refine Pure.of_walk Try.func159 rfl (by simp [Try.f159]) (by simp [-zdO, go_sem]) fun B hK => ?_
  (repeat' (first
    | refine AW_seq ?_
    | refine zaac (id := 0) Γa17_ok [] (by kernel_rfl) ?_; simp  [-zgE, -zdO, ↓zaab, ↓zaaa, go_sem]; try (refine AW_data hK 2 ?_; simp [go_sem])
    | refine zaac (id := 1) Γa17_ok [8, 14, 19, 25, 30, 35, 40] (by kernel_rfl) ?_; simp  [-zgE, -zdO, ↓zaab, ↓zaaa, go_sem]; try (refine ⟨fun s1a => ?_, fun s1a => ?_⟩ <;> (try simp [B_iff, B_not] at s1a) <;> try (refine ⟨fun s1b => ?_, fun s1b => ?_⟩ <;> (try simp [B_iff, B_not] at s1b) <;> try (refine ⟨fun s1c => ?_, fun s1c => ?_⟩ <;> (try simp [B_iff, B_not] at s1c) <;> try (refine ⟨fun s1d => ?_, fun s1d => ?_⟩ <;> (try simp [B_iff, B_not] at s1d) <;> try (refine ⟨fun s1e => ?_, fun s1e => ?_⟩ <;> (try simp [B_iff, B_not] at s1e) <;> try (refine ⟨fun s1f => ?_, fun s1f => ?_⟩ <;> (try simp [B_iff, B_not] at s1f) <;> try (refine ⟨fun s1g => ?_, fun s1g => ?_⟩ <;> (try simp [B_iff, B_not] at s1g) <;> try (refine ⟨fun s1h => ?_, fun s1h => ?_⟩ <;> (try simp [B_iff, B_not] at s1h)))))))))
    | (refine zaag ?_)
    | (refine zaap ?_; simp [-zgE, -zdO, ↓zaab, ↓zaaa, go_sem])
    | (refine zaao ?_; simp [-zgE, -zdO, ↓zaab, ↓zaaa, go_sem])
    | (refine AW_ret ?_; simp [-zgE, -zdO, ↓zaab, ↓zaaa, go_sem, Try.results159])
    | (intro hx; change AW _ _ _ _ _ _)
    | (refine ⟨?_, ?_⟩ <;> change AW _ _ _ _ _ _)
    | (intro hx; refine ⟨fun hs => ?_, fun hs => ?_⟩)
    | (refine ⟨fun hs => ?_, fun hs => ?_⟩)
    | (refine ⟨?_, fun hs => ?_⟩; change AW _ _ _ _ _ _)
    | (refine ⟨fun hs => ?_, ?_⟩; rotate_left; change AW _ _ _ _ _ _; rotate_left)))
  all_goals (first
    | (rintro ⟨g1, g2, g3, g4, g5, g6, g7, g8⟩; dsimp only at *; omega)
    | (rw [Bool.eq_iff_iff, B_iff, decide_eq_true_eq]; exact ⟨fun h => ⟨by assumption, by assumption, by assumption, by assumption, by assumption, by assumption, by assumption, h⟩, fun h => h.2.2.2.2.2.2.2⟩)
    | skip)
noncomputable def l7Edge_pureC : Con := .pure fun
  | [.st [.int .i64 p, .int .i64 q, .int .i64 r, .int .i64 s], .int .i64 n] => (True, .bool (B (EdgeOk (p, q, r, s) n)))
  | _ => (False, .any)
attribute [go_sem] l7Edge_pureC
theorem l7Edge_pureC_ok : ConOk Try.prog 159 l7Edge_pureC := by
  refine ⟨zaal Try.func159 (by decide) rfl, fun args h => ?_⟩
  revert h
  dsimp only
  split
  · intro h
    skip
    skip
    exact ⟨l7Edge_pure _ _ _ _ _, by simp [go_sem]⟩
  · intro h
    exact h.elim
noncomputable def Γa18 : FuncId → Con := ext Γa17 159 l7Edge_pureC
attribute [go_sem] Γa18
theorem Γa18_ok : ∀ g, ConOk Try.prog g (Γa18 g) := zaaw Γa17_ok l7Edge_pureC_ok

noncomputable def badEdge (n : Int) (e : Tr4) : Bool := !B (EdgeOk e n)
def AllSmall (xs : List Tr4) : Prop := ∀ i, i < xs.length → (nth xs i).2.2.1 ≤ 9223372036854775807
set_option maxHeartbeats 2000000 in

theorem edge1_pure (p : Int) (q : Int) (r : Int) (s : Int) (n : Int) (h0 : 0 ≤ n) (h1 : n ≤ 9223372036854775807) (h2 : r ≤ 9223372036854775807) : Pure Try.prog 149 [.st [.int .i64 p, .int .i64 q, .int .i64 r, .int .i64 s], .pd [.int .i64 n]] (.bool (badEdge n (p, q, r, s))) := by
  refine Pure.of_walk Try.func149 rfl (by simp [Try.f149]) (by simp [-zdO, go_sem]) fun B hK => ?_
  (repeat' (first
    | refine AW_seq ?_
    | refine zaac (id := 0) Γa18_ok [] (by kernel_rfl) ?_; simp  [-zgE, -zdO, ↓zaab, ↓zaaa, go_sem]; try (refine AW_data hK 2 ?_; simp [go_sem])
    | refine zaac (id := 1) Γa18_ok [10, 18, 24, 29] (by kernel_rfl) ?_; simp  [-zgE, -zdO, ↓zaab, ↓zaaa, go_sem, zaan (x := n - 1) (by omega) (by omega)]; try (refine ⟨fun s1a => ?_, fun s1a => ?_⟩ <;> (try simp [B_iff, B_not] at s1a) <;> try (refine ⟨fun s1b => ?_, fun s1b => ?_⟩ <;> (try simp [B_iff, B_not] at s1b) <;> try (refine ⟨fun s1c => ?_, fun s1c => ?_⟩ <;> (try simp [B_iff, B_not] at s1c) <;> try (refine ⟨fun s1d => ?_, fun s1d => ?_⟩ <;> (try simp [B_iff, B_not] at s1d) <;> try (refine ⟨fun s1e => ?_, fun s1e => ?_⟩ <;> (try simp [B_iff, B_not] at s1e))))))
    | (refine zaag ?_)
    | (refine zaap ?_; simp [-zgE, -zdO, ↓zaab, ↓zaaa, go_sem])
    | (refine zaao ?_; simp [-zgE, -zdO, ↓zaab, ↓zaaa, go_sem])
    | (refine AW_ret ?_; simp [-zgE, -zdO, ↓zaab, ↓zaaa, go_sem, Try.results149])
    | (intro hx; change AW _ _ _ _ _ _)
    | (refine ⟨?_, ?_⟩ <;> change AW _ _ _ _ _ _)
    | (intro hx; refine ⟨fun hs => ?_, fun hs => ?_⟩)
    | (refine ⟨fun hs => ?_, fun hs => ?_⟩)
    | (refine ⟨?_, fun hs => ?_⟩; change AW _ _ _ _ _ _)
    | (refine ⟨fun hs => ?_, ?_⟩; rotate_left; change AW _ _ _ _ _ _; rotate_left)))
  all_goals (first
    | (rw [badEdge, Bool.not_eq_true', B_not]; rintro ⟨g1, g2, g3, g4, g5, g6, g7, g8⟩; dsimp only at *; omega)
    | (rw [badEdge, Bool.not_not, Bool.eq_iff_iff, decide_eq_true_eq, B_iff, ← bits_same (by omega) h2]; exact ⟨fun h => ⟨s1a.1, by dsimp only; omega, s1b.1, by dsimp only; omega, s1c.1, s1c.2, s1d, h⟩, fun h => h.2.2.2.2.2.2.2⟩)
    | skip)
noncomputable def edge1_pureC : Con := .pure fun
  | [.st [.int .i64 p, .int .i64 q, .int .i64 r, .int .i64 s], .pd [.int .i64 n]] => ((0 ≤ n) ∧ (n ≤ 9223372036854775807) ∧ (r ≤ 9223372036854775807), .bool (badEdge n (p, q, r, s)))
  | _ => (False, .any)
attribute [go_sem] edge1_pureC
theorem edge1_pureC_ok : ConOk Try.prog 149 edge1_pureC := by
  refine ⟨zaal Try.func149 (by decide) rfl, fun args h => ?_⟩
  revert h
  dsimp only
  split
  · intro h
    obtain ⟨h0, h1, h2⟩ := h
    skip
    exact ⟨edge1_pure _ _ _ _ _ h0 h1 h2, by simp [go_sem]⟩
  · intro h
    exact h.elim
noncomputable def Γa19 : FuncId → Con := ext Γa18 149 edge1_pureC
attribute [go_sem] Γa19
theorem Γa19_ok : ∀ g, ConOk Try.prog g (Γa19 g) := zaaw Γa18_ok edge1_pureC_ok

theorem indexEdge_pure (xs : List Tr4) (n : Int) (h0 : 0 ≤ n) (h1 : n ≤ 9223372036854775807) (hS : AllSmall xs) : Pure Try.prog 166 [li cT xs, .fn 149 [.pd [.int .i64 n]]] (.int .i64 (findI (badEdge n) xs)) := by
  refine Pure.of_walk Try.func166 rfl (by simp [Try.f166]) (by simp [-zdO, go_sem]) fun B hK => ?_
  (repeat' (first
    | refine AW_seq ?_
    | (refine AW_len 0 rfl fun hm => ?_); refine zaac (id := 0) Γa19_ok [] (by kernel_rfl) ?_; simp  [-zgE, -zdO, ↓zaab, ↓zaaa, go_sem]
    | refine zaac (id := 1) Γa19_ok [] (by kernel_rfl) ?_; simp  [-zgE, -zdO, ↓zaab, ↓zaaa, go_sem]
    | refine zaac (id := 2) Γa19_ok [] (by kernel_rfl) ?_; simp  [-zgE, -zdO, ↓zaab, ↓zaaa, go_sem]
    | refine zaac (id := 3) Γa19_ok [] (by kernel_rfl) ?_; simp  [-zgE, -zdO, ↓zaab, ↓zaaa, go_sem]
    | refine zaac (id := 4) Γa19_ok [] (by kernel_rfl) ?_; simp  [-zgE, -zdO, ↓zaab, ↓zaaa, go_sem, c9, zaau c9, Nat.sub_pos_of_lt c9, h0, h1, hS k c9]
    | refine zaac (id := 5) Γa19_ok [] (by kernel_rfl) ?_; simp  [-zgE, -zdO, ↓zaab, ↓zaaa, go_sem]
    | refine zaac (id := 6) Γa19_ok [] (by kernel_rfl) ?_; simp  [-zgE, -zdO, ↓zaab, ↓zaaa, go_sem, wrapS (k := k) (by omega)]
    | refine zaac (id := 7) Γa19_ok [] (by kernel_rfl) ?_; simp  [-zgE, -zdO, ↓zaab, ↓zaaa, go_sem]
    | refine zaad (c := .tmp 9) ?_; simp [-zgE, -zdO, ↓zaab, ↓zaaa, go_sem]; try first | (refine ⟨?_, ?_⟩ <;> change AW _ _ _ _ _ _) | (refine ⟨fun c9 => ?_, fun c9 => ?_⟩ <;> (try simp [B_iff, B_not] at c9))
    | refine zaad (c := .tmp 16) ?_; simp [-zgE, -zdO, ↓zaab, ↓zaaa, go_sem]; try first | (refine ⟨?_, ?_⟩ <;> change AW _ _ _ _ _ _) | (refine ⟨fun c16 => ?_, fun c16 => ?_⟩ <;> (try simp [B_iff, B_not] at c16))
    | (refine zaag (id := 0) (AW_loop (ι := Nat) (fun k : Nat => ⟨(upd (upd (upd (upd (upd (fun _ => .any) 0 (li cT xs)) 1 (.fn 149 [.pd [.int .i64 n]])) 6 (li cT xs)) 7 (.int .i64 xs.length)) 8 (.int .i64 k)), fun _ => none⟩) (fun k => k ≤ xs.length ∧ NoneTill (fun i => (badEdge n) (nth xs i)) k) (fun k => xs.length - k) (0) ?_ ?_ ?_); exact ⟨Nat.zero_le _, .zero _⟩; ((repeat' (first | exact zaae (by assumption) | exact zaai | refine zaam ?_ ?_ | refine zaaf ?_)) <;> simp [-zgE, -zdO, ↓zaab, ↓zaaa, go_sem]); rintro k ⟨hk, ht⟩)
    | (refine ⟨k + 1, ⟨by omega, ht.succ (by simp_all)⟩, by first | omega | (simp; done) | (simp; omega), ?_⟩; ((repeat' (first | exact zaae (by assumption) | exact zaai | refine zaam ?_ ?_ | refine zaaf ?_)) <;> simp [-zgE, -zdO, ↓zaab, ↓zaaa, go_sem]))
    | (refine zaag ?_)
    | (refine zaap ?_; simp [-zgE, -zdO, ↓zaab, ↓zaaa, go_sem])
    | (refine zaao ?_; simp [-zgE, -zdO, ↓zaab, ↓zaaa, go_sem])
    | (refine AW_ret ?_; simp [-zgE, -zdO, ↓zaab, ↓zaaa, go_sem, Try.results166])
    | (intro hx; change AW _ _ _ _ _ _)
    | (refine ⟨?_, ?_⟩ <;> change AW _ _ _ _ _ _)
    | (intro hx; refine ⟨fun hs => ?_, fun hs => ?_⟩)
    | (refine ⟨fun hs => ?_, fun hs => ?_⟩)
    | (refine ⟨?_, fun hs => ?_⟩; change AW _ _ _ _ _ _)
    | (refine ⟨fun hs => ?_, ?_⟩; rotate_left; change AW _ _ _ _ _ _; rotate_left)))
  all_goals (first
    | (rw [findI_at ht c9 (by simp_all)])
    | (rw [findI_none ht (by omega)])
    | skip)
noncomputable def indexEdge_pureC : Con := .pure fun
  | [.list n_xs c_xs, .fn 149 [.pd [.int .i64 n]]] => ((Is cT n_xs c_xs) ∧ (0 ≤ n) ∧ (n ≤ 9223372036854775807) ∧ (AllSmall (de cT c_xs)), .int .i64 (findI (badEdge n) (de cT c_xs)))
  | _ => (False, .any)
attribute [go_sem] indexEdge_pureC
theorem indexEdge_pureC_ok : ConOk Try.prog 166 indexEdge_pureC := by
  refine ⟨zaal Try.func166 (by decide) rfl, fun args h => ?_⟩
  revert h
  dsimp only
  split
  · intro h
    obtain ⟨⟨xs, rfl, rfl⟩, h0, h1, hS⟩ := h
    try simp only [de_cat] at *
    exact ⟨indexEdge_pure xs _ h0 h1 hS, by simp [go_sem]⟩
  · intro h
    exact h.elim
noncomputable def Γa20 : FuncId → Con := ext Γa19 166 indexEdge_pureC
attribute [go_sem] Γa20
theorem Γa20_ok : ∀ g, ConOk Try.prog g (Γa20 g) := zaaw Γa19_ok indexEdge_pureC_ok

theorem containsEdge_pure (xs : List Tr4) (n : Int) (h0 : 0 ≤ n) (h1 : n ≤ 9223372036854775807) (hS : AllSmall xs) : Pure Try.prog 148 [li cT xs, .fn 149 [.pd [.int .i64 n]]] (.bool (decide (0 ≤ findI (badEdge n) xs))) := by
  refine Pure.of_walk Try.func148 rfl (by simp [Try.f148]) (by simp [-zdO, go_sem]) fun B hK => ?_
  (repeat' (first
    | refine AW_seq ?_
    | refine zaac (id := 0) Γa20_ok [] (by kernel_rfl) ?_; simp  [-zgE, -zdO, ↓zaab, ↓zaaa, go_sem]
    | refine zaac (id := 1) Γa20_ok [] (by kernel_rfl) ?_; simp  [-zgE, -zdO, ↓zaab, ↓zaaa, go_sem, h0, h1, hS]
    | (refine zaag ?_)
    | (refine zaap ?_; simp [-zgE, -zdO, ↓zaab, ↓zaaa, go_sem])
    | (refine zaao ?_; simp [-zgE, -zdO, ↓zaab, ↓zaaa, go_sem])
    | (refine AW_ret ?_; simp [-zgE, -zdO, ↓zaab, ↓zaaa, go_sem, Try.results148])
    | (intro hx; change AW _ _ _ _ _ _)
    | (refine ⟨?_, ?_⟩ <;> change AW _ _ _ _ _ _)
    | (intro hx; refine ⟨fun hs => ?_, fun hs => ?_⟩)
    | (refine ⟨fun hs => ?_, fun hs => ?_⟩)
    | (refine ⟨?_, fun hs => ?_⟩; change AW _ _ _ _ _ _)
    | (refine ⟨fun hs => ?_, ?_⟩; rotate_left; change AW _ _ _ _ _ _; rotate_left)))
noncomputable def containsEdge_pureC : Con := .pure fun
  | [.list n_xs c_xs, .fn 149 [.pd [.int .i64 n]]] => ((Is cT n_xs c_xs) ∧ (0 ≤ n) ∧ (n ≤ 9223372036854775807) ∧ (AllSmall (de cT c_xs)), .bool (decide (0 ≤ findI (badEdge n) (de cT c_xs))))
  | _ => (False, .any)
attribute [go_sem] containsEdge_pureC
theorem containsEdge_pureC_ok : ConOk Try.prog 148 containsEdge_pureC := by
  refine ⟨zaal Try.func148 (by decide) rfl, fun args h => ?_⟩
  revert h
  dsimp only
  split
  · intro h
    obtain ⟨⟨xs, rfl, rfl⟩, h0, h1, hS⟩ := h
    try simp only [de_cat] at *
    exact ⟨containsEdge_pure xs _ h0 h1 hS, by simp [go_sem]⟩
  · intro h
    exact h.elim
noncomputable def Γa21 : FuncId → Con := ext Γa20 148 containsEdge_pureC
attribute [go_sem] Γa21
theorem Γa21_ok : ∀ g, ConOk Try.prog g (Γa21 g) := zaaw Γa20_ok containsEdge_pureC_ok

def ahead (a : List Int) : Nat → Int
  | 0 => -1
  | k + 1 => nth a k
def AutOk (a : List Int) (n : Nat) (c : List Tr4) : Prop := 1 ≤ n ∧ n ≤ 64 ∧ (∀ i, i < a.length → ahead a i < nth a i ∧ nth a i < n) ∧ c.length ≤ 2048 ∧ ∀ i, i < c.length → EdgeOk (nth c i) n
theorem sorted_ge {a : List Int} {k : Nat} (h : AllTill (fun i => ahead a i < nth a i) k) : ∀ i, i < k → (i : Int) ≤ nth a i
  | 0, hi => by have := h 0 hi; simp only [ahead] at this; omega
  | i + 1, hi => by
    have := h (i + 1) hi
    have := sorted_ge h i (by omega)
    simp only [ahead] at *
    omega
theorem sorted_len {a : List Int} {n : Nat} (h : ∀ i, i < a.length → ahead a i < nth a i ∧ nth a i < n) : a.length ≤ n := by
  rcases Nat.eq_zero_or_pos a.length with h0 | h0
  · omega
  · have h1 := sorted_ge (a := a) (k := a.length) (fun i hi => (h i hi).1) (a.length - 1) (by omega)
    have h2 := (h (a.length - 1) (by omega)).2
    omega
theorem ahead_bd {a : List Int} {n k : Nat} (h : AllTill (fun i => ahead a i < nth a i ∧ nth a i < n) k) : -1 ≤ ahead a k ∧ ahead a k < n := by
  cases k with
  | zero => simp only [ahead]; omega
  | succ k =>
    have := h k (by omega)
    have := sorted_ge (a := a) (k := k + 1) (fun i hi => (h i hi).1) k (by omega)
    simp only [ahead]; omega
theorem ahead_pos {a : List Int} {k : Nat} (h : 0 < k) : ahead a k = nth a (k - 1) := by
  cases k with
  | zero => omega
  | succ k => rfl
theorem find_edge {c : List Tr4} {n : Int} : (0 ≤ findI (badEdge n) c) = ¬ ∀ i, i < c.length → EdgeOk (nth c i) n := by
  rw [findI_ge, eq_iff_iff]
  constructor
  · rintro ⟨i, h, e⟩ k
    rw [badEdge, Bool.not_eq_true', B_not] at e
    exact e (k i h)
  · intro h
    apply Classical.byContradiction; intro h2
    apply h; intro i hi
    apply Classical.byContradiction; intro h3
    exact h2 ⟨i, hi, by rw [badEdge, Bool.not_eq_true', B_not]; exact h3⟩

set_option maxHeartbeats 2000000 in

theorem implAutomatonValid_pure (a : List Int) (b : List Bool) (c : List Tr4) (hS : AllSmall c) : Pure Try.prog 60 [.st [li cI a, li cB b, li cT c]] (.bool (B (AutOk a b.length c))) := by
  refine Pure.of_walk Try.func60 rfl (by simp [Try.f60]) (by simp [-zdO, go_sem]) fun B hK => ?_
  (repeat' (first
    | refine AW_seq ?_
    | refine zaac (id := 0) Γa21_ok [] (by kernel_rfl) ?_; simp  [-zgE, -zdO, ↓zaab, ↓zaaa, go_sem]; try (refine AW_data hK 1 ?_; simp [go_sem])
    | (refine AW_lenP 1 1 ⟨rfl, rfl⟩ fun hm => ?_; refine AW_lenP 1 0 ⟨rfl, rfl⟩ fun hma => ?_); refine zaac (id := 1) Γa21_ok [] (by kernel_rfl) ?_; simp  [-zgE, -zdO, ↓zaab, ↓zaaa, go_sem]; try (refine AW_data hK 3 ?_; simp [go_sem])
    | refine zaac (id := 2) Γa21_ok [] (by kernel_rfl) ?_; simp  [-zgE, -zdO, ↓zaab, ↓zaaa, go_sem]
    | refine zaac (id := 3) Γa21_ok [] (by kernel_rfl) ?_; simp  [-zgE, -zdO, ↓zaab, ↓zaaa, go_sem]
    | refine zaac (id := 4) Γa21_ok [] (by kernel_rfl) ?_; simp  [-zgE, -zdO, ↓zaab, ↓zaaa, go_sem]
    | refine zaac (id := 5) Γa21_ok [] (by kernel_rfl) ?_; simp  [-zgE, -zdO, ↓zaab, ↓zaaa, go_sem, c14, zaau c14, Nat.sub_pos_of_lt c14]
    | (obtain ⟨a1, a2⟩ := ahead_bd ht); refine zaac (id := 6) Γa21_ok [] (by kernel_rfl) ?_; simp  [-zgE, -zdO, ↓zaab, ↓zaaa, go_sem, zaan (x := ahead a k + 1) (by omega) (by omega), zaan (x := (b.length : Int) - 1) (by omega) (by omega)]
    | refine zaac (id := 7) Γa21_ok [] (by kernel_rfl) ?_; simp  [-zgE, -zdO, ↓zaab, ↓zaaa, go_sem]
    | refine zaac (id := 8) Γa21_ok [] (by kernel_rfl) ?_; simp  [-zgE, -zdO, ↓zaab, ↓zaaa, go_sem]
    | refine zaac (id := 9) Γa21_ok [] (by kernel_rfl) ?_; simp  [-zgE, -zdO, ↓zaab, ↓zaaa, go_sem, wrapS (k := k) (by omega)]
    | refine zaac (id := 10) Γa21_ok [28, 34] (by kernel_rfl) ?_; simp  [-zgE, -zdO, ↓zaab, ↓zaaa, go_sem, hS, (by omega : (b.length : Int) ≤ 9223372036854775807), (by omega : b.length ≤ 9223372036854775807)]; try (refine ⟨fun s10a => ?_, fun s10a => ?_⟩ <;> (try simp [B_iff, B_not] at s10a) <;> try (refine ⟨fun s10b => ?_, fun s10b => ?_⟩ <;> (try simp [B_iff, B_not] at s10b) <;> try (refine ⟨fun s10c => ?_, fun s10c => ?_⟩ <;> (try simp [B_iff, B_not] at s10c))))
    | refine zaad (c := .tmp 14) ?_; simp [-zgE, -zdO, ↓zaab, ↓zaaa, go_sem]; try first | (refine ⟨?_, ?_⟩ <;> change AW _ _ _ _ _ _) | (refine ⟨fun c14 => ?_, fun c14 => ?_⟩ <;> (try simp [B_iff, B_not] at c14))
    | refine zaad (c := .tmp 23) ?_; simp [-zgE, -zdO, ↓zaab, ↓zaaa, go_sem]; try first | (refine ⟨?_, ?_⟩ <;> change AW _ _ _ _ _ _) | (refine ⟨fun c23 => ?_, fun c23 => ?_⟩ <;> (try simp [B_iff, B_not] at c23))
    | (refine zaag (id := 0) (AW_loop (ι := Nat) (fun k : Nat => ⟨(upd (upd (upd (upd (upd (upd (fun _ => .any) 1 (.pd [li cI a, li cB b, li cT c])) 3 (.pd [.int .i64 b.length])) 4 (.int .i64 (ahead a k))) 11 (li cI a)) 12 (.int .i64 a.length)) 13 (.int .i64 k)), fun _ => none⟩) (fun k => k ≤ a.length ∧ AllTill (fun i => ahead a i < nth a i ∧ nth a i < (b.length : Nat)) k) (fun k => a.length - k) (0) ?_ ?_ ?_); exact ⟨Nat.zero_le _, .zero _⟩; ((repeat' (first | exact zaae (by assumption) | exact zaai | refine zaam ?_ ?_ | refine zaaf ?_)) <;> simp [-zgE, -zdO, ↓zaab, ↓zaaa, go_sem, ahead]); rintro k ⟨hk, ht⟩)
    | (refine ⟨k + 1, ⟨by omega, ht.succ ⟨by omega, by omega⟩⟩, by first | omega | (simp; done) | (simp; omega), ?_⟩; ((repeat' (first | exact zaae (by assumption) | exact zaai | refine zaam ?_ ?_ | refine zaaf ?_)) <;> simp [-zgE, -zdO, ↓zaab, ↓zaaa, go_sem, ahead]))
    | (refine zaag ?_)
    | (refine zaap ?_; simp [-zgE, -zdO, ↓zaab, ↓zaaa, go_sem])
    | (refine zaao ?_; simp [-zgE, -zdO, ↓zaab, ↓zaaa, go_sem])
    | (refine AW_ret ?_; simp [-zgE, -zdO, ↓zaab, ↓zaaa, go_sem, Try.results60])
    | (intro hx; change AW _ _ _ _ _ _)
    | (refine ⟨?_, ?_⟩ <;> change AW _ _ _ _ _ _)
    | (intro hx; refine ⟨fun hs => ?_, fun hs => ?_⟩)
    | (refine ⟨fun hs => ?_, fun hs => ?_⟩)
    | (refine ⟨?_, fun hs => ?_⟩; change AW _ _ _ _ _ _)
    | (refine ⟨fun hs => ?_, ?_⟩; rotate_left; change AW _ _ _ _ _ _; rotate_left)))
  all_goals (first
    | (rintro ⟨g1, g2, g3, g4, g5⟩; have := g3 k c14; omega)
    | (rintro ⟨g1, g2, g3, g4, g5⟩; omega)
    | (rw [Bool.eq_iff_iff, decide_eq_true_eq, find_edge, Bool.not_eq_true', B_not]; exact ⟨fun h k => h k.2.2.2.2, fun h k => h ⟨by omega, by omega, fun i hi => ht i (by omega), by omega, k⟩⟩)
    | skip)
noncomputable def implAutomatonValid_pureC : Con := .pure fun
  | [.st [.list n_a c_a, .list n_b c_b, .list n_c c_c]] => ((Is cI n_a c_a) ∧ (Is cB n_b c_b) ∧ (Is cT n_c c_c) ∧ (AllSmall (de cT c_c)), .bool (B (AutOk (de cI c_a) (de cB c_b).length (de cT c_c))))
  | _ => (False, .any)
attribute [go_sem] implAutomatonValid_pureC
theorem implAutomatonValid_pureC_ok : ConOk Try.prog 60 implAutomatonValid_pureC := by
  refine ⟨zaal Try.func60 (by decide) rfl, fun args h => ?_⟩
  revert h
  dsimp only
  split
  · intro h
    obtain ⟨⟨a, rfl, rfl⟩, ⟨b, rfl, rfl⟩, ⟨c, rfl, rfl⟩, hS⟩ := h
    try simp only [de_cat] at *
    exact ⟨implAutomatonValid_pure a b c hS, by simp [go_sem]⟩
  · intro h
    exact h.elim
noncomputable def Γa22 : FuncId → Con := ext Γa21 60 implAutomatonValid_pureC
attribute [go_sem] Γa22
theorem Γa22_ok : ∀ g, ConOk Try.prog g (Γa22 g) := zaaw Γa21_ok implAutomatonValid_pureC_ok

set_option maxHeartbeats 2000000 in

theorem specAutomatonValid_pure (a : List Int) (b : List Bool) (c : List Tr4) (hS : AllSmall c) : Pure Try.prog 69 [.st [li cI a, li cB b, li cT c]] (.bool (B (AutOk a b.length c))) := by
  refine Pure.of_walk Try.func69 rfl (by simp [Try.f69]) (by simp [-zdO, go_sem]) fun B hK => ?_
  (repeat' (first
    | refine AW_seq ?_
    | refine zaac (id := 0) Γa22_ok [] (by kernel_rfl) ?_; simp  [-zgE, -zdO, ↓zaab, ↓zaaa, go_sem]; try (refine AW_data hK 1 ?_; simp [go_sem])
    | (refine AW_lenP 1 1 ⟨rfl, rfl⟩ fun hm => ?_; refine AW_lenP 1 0 ⟨rfl, rfl⟩ fun hma => ?_); refine zaac (id := 1) Γa22_ok [] (by kernel_rfl) ?_; simp  [-zgE, -zdO, ↓zaab, ↓zaaa, go_sem]
    | refine zaac (id := 2) Γa22_ok [11, 15, 22] (by kernel_rfl) ?_; simp  [-zgE, -zdO, ↓zaab, ↓zaaa, go_sem]; try (refine ⟨fun s2a => ?_, fun s2a => ?_⟩ <;> (try simp [B_iff, B_not] at s2a) <;> try (refine ⟨fun s2b => ?_, fun s2b => ?_⟩ <;> (try simp [B_iff, B_not] at s2b) <;> try (refine ⟨fun s2c => ?_, fun s2c => ?_⟩ <;> (try simp [B_iff, B_not] at s2c) <;> try (refine ⟨fun s2d => ?_, fun s2d => ?_⟩ <;> (try simp [B_iff, B_not] at s2d)))))
    | refine zaac (id := 3) Γa22_ok [] (by kernel_rfl) ?_; simp  [-zgE, -zdO, ↓zaab, ↓zaaa, go_sem]
    | refine zaac (id := 4) Γa22_ok [] (by kernel_rfl) ?_; simp  [-zgE, -zdO, ↓zaab, ↓zaaa, go_sem]
    | refine zaac (id := 5) Γa22_ok [] (by kernel_rfl) ?_; simp  [-zgE, -zdO, ↓zaab, ↓zaaa, go_sem]
    | refine zaat (id := 7) Γa22_ok mixed [41, 50, 53] [1, 4] (by kernel_rfl) (by kernel_rfl) (by simp [-zgE, -zdO, ↓zaab, ↓zaaa, go_sem, (show k = 0 from h0), (show 0 < a.length by omega), zaau c32, Nat.sub_pos_of_lt c32]) ?_; simp  [-zgE, -zdO, ↓zaab, ↓zaaa, go_sem, (show k = 0 from h0), (show 0 < a.length by omega), zaau c32, Nat.sub_pos_of_lt c32]; try (refine ⟨fun s7a => ?_, fun s7a => ?_⟩ <;> (try simp [B_iff, B_not] at s7a) <;> try (refine ⟨fun s7b => ?_, fun s7b => ?_⟩ <;> (try simp [B_iff, B_not] at s7b) <;> try (refine ⟨fun s7c => ?_, fun s7c => ?_⟩ <;> (try simp [B_iff, B_not] at s7c) <;> try (refine ⟨fun s7d => ?_, fun s7d => ?_⟩ <;> (try simp [B_iff, B_not] at s7d)))))
    | refine zaat (id := 7) Γa22_ok mixed [41, 50, 53] [1, 4] (by kernel_rfl) (by kernel_rfl) (by simp [-zgE, -zdO, ↓zaab, ↓zaaa, go_sem, (show 0 < k by omega), c32, zaau c32, Nat.sub_pos_of_lt c32, zaan (x := (k : Int) - 1) (by omega) (by omega), (show (k - 1) < a.length by omega), (show (0 : Int) ≤ (k : Int) - 1 by omega), (show (k : Int) - 1 < a.length by omega), (show (1 : Int) ≤ (k : Int) by omega), (show 0 < a.length - (k - 1) by omega), (show ((k : Int) - 1).toNat = k - 1 by omega)]) ?_; simp  [-zgE, -zdO, ↓zaab, ↓zaaa, go_sem, (show 0 < k by omega), c32, zaau c32, Nat.sub_pos_of_lt c32, zaan (x := (k : Int) - 1) (by omega) (by omega), (show (k - 1) < a.length by omega), (show (0 : Int) ≤ (k : Int) - 1 by omega), (show (k : Int) - 1 < a.length by omega), (show (1 : Int) ≤ (k : Int) by omega), (show 0 < a.length - (k - 1) by omega), (show ((k : Int) - 1).toNat = k - 1 by omega)]; try (refine ⟨fun s7a => ?_, fun s7a => ?_⟩ <;> (try simp [B_iff, B_not] at s7a) <;> try (refine ⟨fun s7b => ?_, fun s7b => ?_⟩ <;> (try simp [B_iff, B_not] at s7b) <;> try (refine ⟨fun s7c => ?_, fun s7c => ?_⟩ <;> (try simp [B_iff, B_not] at s7c) <;> try (refine ⟨fun s7d => ?_, fun s7d => ?_⟩ <;> (try simp [B_iff, B_not] at s7d)))))
    | refine zaac (id := 8) Γa22_ok [] (by kernel_rfl) ?_; simp  [-zgE, -zdO, ↓zaab, ↓zaaa, go_sem]
    | refine zaac (id := 6) Γa22_ok [] (by kernel_rfl) ?_; simp  [-zgE, -zdO, ↓zaab, ↓zaaa, go_sem, wrapS (k := k) (by omega), (by decide : IntKind.i64.wrap 1 = 1)]
    | refine zaac (id := 9) Γa22_ok [] (by kernel_rfl) ?_; simp  [-zgE, -zdO, ↓zaab, ↓zaaa, go_sem]
    | refine zaac (id := 10) Γa22_ok [] (by kernel_rfl) ?_; simp  [-zgE, -zdO, ↓zaab, ↓zaaa, go_sem]
    | refine zaac (id := 12) Γa22_ok [] (by kernel_rfl) ?_; simp  [-zgE, -zdO, ↓zaab, ↓zaaa, go_sem, c72, zaau c72, Nat.sub_pos_of_lt c72]
    | refine zaac (id := 13) Γa22_ok [] (by kernel_rfl) ?_; simp  [-zgE, -zdO, ↓zaab, ↓zaaa, go_sem]
    | refine zaac (id := 11) Γa22_ok [] (by kernel_rfl) ?_; simp  [-zgE, -zdO, ↓zaab, ↓zaaa, go_sem, wrapS (k := i) (by omega)]
    | refine zaac (id := 14) Γa22_ok [] (by kernel_rfl) ?_; simp  [-zgE, -zdO, ↓zaab, ↓zaaa, go_sem]
    | refine zaad (c := .tmp 27) ?_; simp [-zgE, -zdO, ↓zaab, ↓zaaa, go_sem]; try first | (refine ⟨?_, ?_⟩ <;> change AW _ _ _ _ _ _) | (refine ⟨fun c27 => ?_, fun c27 => ?_⟩ <;> (try simp [B_iff, B_not] at c27))
    | refine zaad (c := .tmp 32) ?_; simp [-zgE, -zdO, ↓zaab, ↓zaaa, go_sem]; try first | (refine ⟨?_, ?_⟩ <;> change AW _ _ _ _ _ _) | (refine ⟨fun c32 => ?_, fun c32 => ?_⟩ <;> (try simp [B_iff, B_not] at c32))
    | refine zaad (c := .tmp 67) ?_; simp [-zgE, -zdO, ↓zaab, ↓zaaa, go_sem]; try first | (refine ⟨?_, ?_⟩ <;> change AW _ _ _ _ _ _) | (refine ⟨fun c67 => ?_, fun c67 => ?_⟩ <;> (try simp [B_iff, B_not] at c67))
    | refine zaad (c := .tmp 72) ?_; simp [-zgE, -zdO, ↓zaab, ↓zaaa, go_sem]; try first | (refine ⟨?_, ?_⟩ <;> change AW _ _ _ _ _ _) | (refine ⟨fun c72 => ?_, fun c72 => ?_⟩ <;> (try simp [B_iff, B_not] at c72))
    | refine zaad (c := .tmp 82) ?_; simp [-zgE, -zdO, ↓zaab, ↓zaaa, go_sem]; try first | (refine ⟨?_, ?_⟩ <;> change AW _ _ _ _ _ _) | (refine ⟨fun c82 => ?_, fun c82 => ?_⟩ <;> (try simp [B_iff, B_not] at c82))
    | (refine zaag (id := 0) (AW_loop (ι := Nat) (fun k : Nat => ⟨(upd (upd (upd (fun _ => .any) 1 (.pd [li cI a, li cB b, li cT c])) 3 (.int .i64 b.length)) 4 (.int .i64 k)), fun _ => none⟩) (fun k => k ≤ a.length ∧ AllTill (fun i => ahead a i < nth a i ∧ nth a i < (b.length : Nat)) k) (fun k => a.length - k) (0) ?_ ?_ ?_); exact ⟨Nat.zero_le _, .zero _⟩; ((repeat' (first | exact zaae (by assumption) | exact zaai | refine zaam ?_ ?_ | refine zaaf ?_)) <;> simp [-zgE, -zdO, ↓zaab, ↓zaaa, go_sem]); rintro k ⟨hk, ht⟩; obtain ⟨k0, h0⟩ | ⟨j, h0⟩ : (∃ z : Nat, k = 0) ∨ ∃ j, k = j + 1 := (by rcases k with _ | j; exact .inl ⟨0, rfl⟩; exact .inr ⟨j, rfl⟩))
    | (refine ⟨k + 1, ⟨by omega, ht.succ (by first | (subst h0; simp only [ahead]; omega) | (show ahead a k < nth a k ∧ nth a k < ((b.length : Nat) : Int); rw [ahead_pos (by omega)]; omega))⟩, by first | omega | (simp; done) | (simp; omega), ?_⟩; ((repeat' (first | exact zaae (by assumption) | exact zaai | refine zaam ?_ ?_ | refine zaaf ?_)) <;> simp [-zgE, -zdO, ↓zaab, ↓zaaa, go_sem, h0]))
    | (refine zaag (id := 2) (AW_loop (ι := Nat) (fun i : Nat => ⟨(upd (upd (upd (fun _ => .any) 1 (.pd [li cI a, li cB b, li cT c])) 3 (.int .i64 b.length)) 5 (.int .i64 i)), fun _ => none⟩) (fun i => i ≤ c.length ∧ AllTill (fun j => EdgeOk (nth c j) (b.length : Nat)) i) (fun i => c.length - i) (0) ?_ ?_ ?_); exact ⟨Nat.zero_le _, .zero _⟩; ((repeat' (first | exact zaae (by assumption) | exact zaai | refine zaam ?_ ?_ | refine zaaf ?_)) <;> simp [-zgE, -zdO, ↓zaab, ↓zaaa, go_sem]); rintro i ⟨hi, hu⟩)
    | (refine ⟨i + 1, ⟨by omega, hu.succ c82⟩, by first | omega | (simp; done) | (simp; omega), ?_⟩; ((repeat' (first | exact zaae (by assumption) | exact zaai | refine zaam ?_ ?_ | refine zaaf ?_)) <;> simp [-zgE, -zdO, ↓zaab, ↓zaaa, go_sem]))
    | (refine zaag ?_)
    | (refine zaap ?_; simp [-zgE, -zdO, ↓zaab, ↓zaaa, go_sem])
    | (refine zaao ?_; simp [-zgE, -zdO, ↓zaab, ↓zaaa, go_sem])
    | (refine AW_ret ?_; simp [-zgE, -zdO, ↓zaab, ↓zaaa, go_sem, Try.results69])
    | (intro hx; change AW _ _ _ _ _ _)
    | (refine ⟨?_, ?_⟩ <;> change AW _ _ _ _ _ _)
    | (intro hx; refine ⟨fun hs => ?_, fun hs => ?_⟩)
    | (refine ⟨fun hs => ?_, fun hs => ?_⟩)
    | (refine ⟨?_, fun hs => ?_⟩; change AW _ _ _ _ _ _)
    | (refine ⟨fun hs => ?_, ?_⟩; rotate_left; change AW _ _ _ _ _ _; rotate_left)))
  all_goals (first
    | (rintro ⟨g1, g2, g3, g4, g5⟩; have q := g3 k c32; subst h0; simp only [ahead] at q; omega)
    | (rintro ⟨g1, g2, g3, g4, g5⟩; have q := g3 k c32; rw [ahead_pos (by omega)] at q; have q2 := sorted_ge (a := a) (k := k + 1) (fun i hi => (g3 i (by omega)).1) k (by omega); omega)
    | (rintro ⟨g1, g2, g3, g4, g5⟩; omega)
    | (intro h; have := sorted_len h.2.2.1; omega)
    | (rintro ⟨g1, g2, g3, g4, g5⟩; exact c82 (g5 i c72))
    | exact ⟨by omega, by omega, fun j hj => ht j (by omega), by omega, fun j hj => hu j (by omega)⟩
    | skip)
  all_goals trace_state
noncomputable def specAutomatonValid_pureC : Con := .pure fun
  | [.st [.list n_a c_a, .list n_b c_b, .list n_c c_c]] => ((Is cI n_a c_a) ∧ (Is cB n_b c_b) ∧ (Is cT n_c c_c) ∧ (AllSmall (de cT c_c)), .bool (B (AutOk (de cI c_a) (de cB c_b).length (de cT c_c))))
  | _ => (False, .any)
attribute [go_sem] specAutomatonValid_pureC
theorem specAutomatonValid_pureC_ok : ConOk Try.prog 69 specAutomatonValid_pureC := by
  refine ⟨zaal Try.func69 (by decide) rfl, fun args h => ?_⟩
  revert h
  dsimp only
  split
  · intro h
    obtain ⟨⟨a, rfl, rfl⟩, ⟨b, rfl, rfl⟩, ⟨c, rfl, rfl⟩, hS⟩ := h
    try simp only [de_cat] at *
    exact ⟨specAutomatonValid_pure a b c hS, by simp [go_sem]⟩
  · intro h
    exact h.elim
noncomputable def Γa23 : FuncId → Con := ext Γa22 69 specAutomatonValid_pureC
attribute [go_sem] Γa23
theorem Γa23_ok : ∀ g, ConOk Try.prog g (Γa23 g) := zaaw Γa22_ok specAutomatonValid_pureC_ok

end Go.Proofs.Ytkjimmkemnmajaa.Vm

