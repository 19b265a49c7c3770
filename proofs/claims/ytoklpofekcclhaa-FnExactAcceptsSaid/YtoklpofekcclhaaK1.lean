/-
  Lassos behind the automata's functions; the small functions of Accepts. No conditions.
-/
import Derived.Test.YtoklpofekcclhaaN9
namespace Go.Proofs.Ytoklpofekcclhaa.Vm
open Go
set_option linter.unusedVariables false
set_option linter.unusedSimpArgs false
set_option maxRecDepth 200000

theorem szLasso_pure (a : List Int) (b : List Int) (left : Int) (h0 : -1 ≤ left) (h1 : left ≤ 1048576) : Pure Try.prog 46 [.st [li cI a, li cI b], .int .i64 left] (.int .i64 (szOf left (a.length + b.length))) := by
  refine Pure.of_walk Try.func46 rfl (by simp [Try.f46]) (by simp [-List.drop_one, go_sem]) fun B hK => ?_
  (repeat' (first
    | refine AW_seq ?_
    | refine AW_region (id := 0) Γn13_ok [] (by kernel_rfl) ?_; simp  [-List.getD_eq_getElem?_getD, -List.drop_one, ↓splitB_true, ↓splitB_false, go_sem]; try (refine AW_data hK 2 ?_; simp [go_sem])
    | refine AW_region (id := 1) Γn13_ok [] (by kernel_rfl) ?_; simp  [-List.getD_eq_getElem?_getD, -List.drop_one, ↓splitB_true, ↓splitB_false, go_sem, h0, h1]
    | refine AW_region (id := 2) Γn13_ok [] (by kernel_rfl) ?_; simp  [-List.getD_eq_getElem?_getD, -List.drop_one, ↓splitB_true, ↓splitB_false, go_sem]
    | refine AW_region (id := 3) Γn13_ok [] (by kernel_rfl) ?_; simp  [-List.getD_eq_getElem?_getD, -List.drop_one, ↓splitB_true, ↓splitB_false, go_sem]
    | refine AW_region (id := 4) Γn13_ok [] (by kernel_rfl) ?_; simp  [-List.getD_eq_getElem?_getD, -List.drop_one, ↓splitB_true, ↓splitB_false, go_sem, szOf_lo h0, szOf_hi h1]
    | refine AW_region (id := 5) Γn13_ok [] (by kernel_rfl) ?_; simp  [-List.getD_eq_getElem?_getD, -List.drop_one, ↓splitB_true, ↓splitB_false, go_sem]
    | refine AW_region (id := 6) Γn13_ok [] (by kernel_rfl) ?_; simp  [-List.getD_eq_getElem?_getD, -List.drop_one, ↓splitB_true, ↓splitB_false, go_sem]
    | refine AW_region (id := 7) Γn13_ok [] (by kernel_rfl) ?_; simp  [-List.getD_eq_getElem?_getD, -List.drop_one, ↓splitB_true, ↓splitB_false, go_sem, szOf_szOf h0]
    | refine AW_condA (c := .tmp 10) ?_; simp [-List.getD_eq_getElem?_getD, -List.drop_one, ↓splitB_true, ↓splitB_false, go_sem]; try first | (refine ⟨?_, ?_⟩ <;> change AW _ _ _ _ _ _) | (refine ⟨fun c10 => ?_, fun c10 => ?_⟩ <;> (try simp [B_iff, B_not] at c10))
    | refine AW_condA (c := .tmp 16) ?_; simp [-List.getD_eq_getElem?_getD, -List.drop_one, ↓splitB_true, ↓splitB_false, go_sem]; try first | (refine ⟨?_, ?_⟩ <;> change AW _ _ _ _ _ _) | (refine ⟨fun c16 => ?_, fun c16 => ?_⟩ <;> (try simp [B_iff, B_not] at c16))
    | (refine AW_block ?_)
    | (refine AW_exit ?_; simp [-List.getD_eq_getElem?_getD, -List.drop_one, ↓splitB_true, ↓splitB_false, go_sem])
    | (refine AW_skip ?_; simp [-List.getD_eq_getElem?_getD, -List.drop_one, ↓splitB_true, ↓splitB_false, go_sem])
    | (refine AW_ret ?_; simp [-List.getD_eq_getElem?_getD, -List.drop_one, ↓splitB_true, ↓splitB_false, go_sem, Try.results46])
    | (intro hx; change AW _ _ _ _ _ _)
    | (refine ⟨?_, ?_⟩ <;> change AW _ _ _ _ _ _)
    | (intro hx; refine ⟨fun hs => ?_, fun hs => ?_⟩)
    | (refine ⟨fun hs => ?_, fun hs => ?_⟩)
    | (refine ⟨?_, fun hs => ?_⟩; change AW _ _ _ _ _ _)
    | (refine ⟨fun hs => ?_, ?_⟩; rotate_left; change AW _ _ _ _ _ _; rotate_left)))
  all_goals (first
    | exact (szOf_neg (by assumption) h0 (by omega)).symm
    | (rw [szOf_szOf h0] at *; exact (szOf_neg (by assumption) h0 (by omega)).symm)
    | (rw [szOf_szOf h0])
    | skip)
noncomputable def szLasso_pureC : Con := .pure fun
  | [.st [.list n_a c_a, .list n_b c_b], .int .i64 left] => ((Is cI n_a c_a) ∧ (Is cI n_b c_b) ∧ (-1 ≤ left) ∧ (left ≤ 1048576), .int .i64 (szOf left ((de cI c_a).length + (de cI c_b).length)))
  | _ => (False, .any)
attribute [go_sem] szLasso_pureC
theorem szLasso_pureC_ok : ConOk Try.prog 46 szLasso_pureC := by
  refine ⟨callable Try.func46 (by decide) rfl, fun args h => ?_⟩
  revert h
  dsimp only
  split
  · intro h
    obtain ⟨⟨a, rfl, rfl⟩, ⟨b, rfl, rfl⟩, h0, h1⟩ := h
    try simp only [de_cat] at *
    exact ⟨szLasso_pure a b _ h0 h1, by simp [go_sem]⟩
  · intro h
    exact h.elim
noncomputable def Γk1 : FuncId → Con := ext Γn13 46 szLasso_pureC
attribute [go_sem] Γk1
theorem Γk1_ok : ∀ g, ConOk Try.prog g (Γk1 g) := ext_ok Γn13_ok szLasso_pureC_ok

theorem toLasso_pure (a : List Int) (b : List Int) (h0 : a.length ≤ 1048576) (h1 : b.length ≤ 1048576) : Pure Try.prog 48 [.st [li cI a, li cI b]] (.st [fr 1 cI a, fr 1 cI b]) := by
  refine Pure.of_walk Try.func48 rfl (by simp [Try.f48]) (by simp [-List.drop_one, go_sem]) fun B hK => ?_
  (repeat' (first
    | refine AW_seq ?_
    | refine AW_region (id := 0) Γk1_ok [] (by kernel_rfl) ?_; simp  [-List.getD_eq_getElem?_getD, -List.drop_one, ↓splitB_true, ↓splitB_false, go_sem]; try (refine AW_data hK 1 ?_; simp [go_sem])
    | refine AW_region (id := 1) Γk1_ok [] (by kernel_rfl) ?_; simp  [-List.getD_eq_getElem?_getD, -List.drop_one, ↓splitB_true, ↓splitB_false, go_sem]; try (refine AW_matBox 3 rfl fun b3 hb3 => ?_)
    | refine AW_region (id := 2) Γk1_ok [] (by kernel_rfl) ?_; simp  [-List.getD_eq_getElem?_getD, -List.drop_one, ↓splitB_true, ↓splitB_false, go_sem, h0, h1]
    | refine AW_region (id := 3) Γk1_ok [] (by kernel_rfl) ?_; simp  [-List.getD_eq_getElem?_getD, -List.drop_one, ↓splitB_true, ↓splitB_false, go_sem, h0, h1]
    | refine AW_region (id := 4) Γk1_ok [] (by kernel_rfl) ?_; simp  [-List.getD_eq_getElem?_getD, -List.drop_one, ↓splitB_true, ↓splitB_false, go_sem]
    | (refine AW_block ?_)
    | (refine AW_exit ?_; simp [-List.getD_eq_getElem?_getD, -List.drop_one, ↓splitB_true, ↓splitB_false, go_sem])
    | (refine AW_skip ?_; simp [-List.getD_eq_getElem?_getD, -List.drop_one, ↓splitB_true, ↓splitB_false, go_sem])
    | (refine AW_ret ?_; simp [-List.getD_eq_getElem?_getD, -List.drop_one, ↓splitB_true, ↓splitB_false, go_sem, Try.results48])
    | (intro hx; change AW _ _ _ _ _ _)
    | (refine ⟨?_, ?_⟩ <;> change AW _ _ _ _ _ _)
    | (intro hx; refine ⟨fun hs => ?_, fun hs => ?_⟩)
    | (refine ⟨fun hs => ?_, fun hs => ?_⟩)
    | (refine ⟨?_, fun hs => ?_⟩; change AW _ _ _ _ _ _)
    | (refine ⟨fun hs => ?_, ?_⟩; rotate_left; change AW _ _ _ _ _ _; rotate_left)))
noncomputable def toLasso_pureC : Con := .pure fun
  | [.st [.list n_a c_a, .list n_b c_b]] => ((Is cI n_a c_a) ∧ (Is cI n_b c_b) ∧ ((de cI c_a).length ≤ 1048576) ∧ ((de cI c_b).length ≤ 1048576), .st [fr 1 cI (de cI c_a), fr 1 cI (de cI c_b)])
  | _ => (False, .any)
attribute [go_sem] toLasso_pureC
theorem toLasso_pureC_ok : ConOk Try.prog 48 toLasso_pureC := by
  refine ⟨callable Try.func48 (by decide) rfl, fun args h => ?_⟩
  revert h
  dsimp only
  split
  · intro h
    obtain ⟨⟨a, rfl, rfl⟩, ⟨b, rfl, rfl⟩, h0, h1⟩ := h
    try simp only [de_cat] at *
    exact ⟨toLasso_pure a b h0 h1, by simp [go_sem]⟩
  · intro h
    exact h.elim
noncomputable def Γk2 : FuncId → Con := ext Γk1 48 toLasso_pureC
attribute [go_sem] Γk2
theorem Γk2_ok : ∀ g, ConOk Try.prog g (Γk2 g) := ext_ok Γk1_ok toLasso_pureC_ok

theorem eqLasso_pure (a : List Int) (b : List Int) (c : List Int) (d : List Int)  : Pure Try.prog 50 [.st [li cI a, li cI b], .st [li cI c, li cI d]] (.bool (decide (a = c) && decide (b = d))) := by
  refine Pure.of_walk Try.func50 rfl (by simp [Try.f50]) (by simp [-List.drop_one, go_sem]) fun B hK => ?_
  (repeat' (first
    | refine AW_seq ?_
    | refine AW_region (id := 0) Γk2_ok [] (by kernel_rfl) ?_; simp  [-List.getD_eq_getElem?_getD, -List.drop_one, ↓splitB_true, ↓splitB_false, go_sem]; try (refine AW_data hK 2 ?_; simp [go_sem]; refine AW_data hK 3 ?_; simp [go_sem])
    | refine AW_region (id := 1) Γk2_ok [] (by kernel_rfl) ?_; simp  [-List.getD_eq_getElem?_getD, -List.drop_one, ↓splitB_true, ↓splitB_false, go_sem]
    | refine AW_region (id := 2) Γk2_ok [] (by kernel_rfl) ?_; simp  [-List.getD_eq_getElem?_getD, -List.drop_one, ↓splitB_true, ↓splitB_false, go_sem]
    | refine AW_region (id := 3) Γk2_ok [] (by kernel_rfl) ?_; simp  [-List.getD_eq_getElem?_getD, -List.drop_one, ↓splitB_true, ↓splitB_false, go_sem]
    | refine AW_region (id := 4) Γk2_ok [] (by kernel_rfl) ?_; simp  [-List.getD_eq_getElem?_getD, -List.drop_one, ↓splitB_true, ↓splitB_false, go_sem]
    | refine AW_region (id := 5) Γk2_ok [] (by kernel_rfl) ?_; simp  [-List.getD_eq_getElem?_getD, -List.drop_one, ↓splitB_true, ↓splitB_false, go_sem]
    | refine AW_condA (c := .tmp 10) ?_; simp [-List.getD_eq_getElem?_getD, -List.drop_one, ↓splitB_true, ↓splitB_false, go_sem]; try first | (refine ⟨?_, ?_⟩ <;> change AW _ _ _ _ _ _) | (refine ⟨fun c10 => ?_, fun c10 => ?_⟩ <;> (try simp [B_iff, B_not] at c10))
    | refine AW_condA (c := .tmp 16) ?_; simp [-List.getD_eq_getElem?_getD, -List.drop_one, ↓splitB_true, ↓splitB_false, go_sem]; try first | (refine ⟨?_, ?_⟩ <;> change AW _ _ _ _ _ _) | (refine ⟨fun c16 => ?_, fun c16 => ?_⟩ <;> (try simp [B_iff, B_not] at c16))
    | (refine AW_block ?_)
    | (refine AW_exit ?_; simp [-List.getD_eq_getElem?_getD, -List.drop_one, ↓splitB_true, ↓splitB_false, go_sem])
    | (refine AW_skip ?_; simp [-List.getD_eq_getElem?_getD, -List.drop_one, ↓splitB_true, ↓splitB_false, go_sem])
    | (refine AW_ret ?_; simp [-List.getD_eq_getElem?_getD, -List.drop_one, ↓splitB_true, ↓splitB_false, go_sem, Try.results50])
    | (intro hx; change AW _ _ _ _ _ _)
    | (refine ⟨?_, ?_⟩ <;> change AW _ _ _ _ _ _)
    | (intro hx; refine ⟨fun hs => ?_, fun hs => ?_⟩)
    | (refine ⟨fun hs => ?_, fun hs => ?_⟩)
    | (refine ⟨?_, fun hs => ?_⟩; change AW _ _ _ _ _ _)
    | (refine ⟨fun hs => ?_, ?_⟩; rotate_left; change AW _ _ _ _ _ _; rotate_left)))
  all_goals (first
    | (simp_all; done)
    | (intros; simp_all; done)
    | skip)
noncomputable def eqLasso_pureC : Con := .pure fun
  | [.st [.list n_a c_a, .list n_b c_b], .st [.list n_c c_c, .list n_d c_d]] => ((Is cI n_a c_a) ∧ (Is cI n_b c_b) ∧ (Is cI n_c c_c) ∧ (Is cI n_d c_d), .bool (decide ((de cI c_a) = (de cI c_c)) && decide ((de cI c_b) = (de cI c_d))))
  | _ => (False, .any)
attribute [go_sem] eqLasso_pureC
theorem eqLasso_pureC_ok : ConOk Try.prog 50 eqLasso_pureC := by
  refine ⟨callable Try.func50 (by decide) rfl, fun args h => ?_⟩
  revert h
  dsimp only
  split
  · intro h
    obtain ⟨⟨a, rfl, rfl⟩, ⟨b, rfl, rfl⟩, ⟨c, rfl, rfl⟩, ⟨d, rfl, rfl⟩⟩ := h
    try simp only [de_cat] at *
    exact ⟨eqLasso_pure a b c d, by simp [go_sem]⟩
  · intro h
    exact h.elim
noncomputable def Γk3 : FuncId → Con := ext Γk2 50 eqLasso_pureC
attribute [go_sem] Γk3
theorem Γk3_ok : ∀ g, ConOk Try.prog g (Γk3 g) := ext_ok Γk2_ok eqLasso_pureC_ok

/-- Letters all. -/
def LetOk (xs : List Int) : Prop := ∀ i, i < xs.length → 0 ≤ nth xs i ∧ nth xs i ≤ 7
/-- A valid lasso. -/
def LasOk (a b : List Int) : Prop := LetOk a ∧ LetOk b ∧ a.length ≤ 80 ∧ 1 ≤ b.length ∧ b.length ≤ 80

theorem l6Letters_pure (xs : List Int)  : Pure Try.prog 160 [li cI xs] (.bool (B (LetOk xs))) := by
  refine Pure.of_walk Try.func160 rfl (by simp [Try.f160]) (by simp [-List.drop_one, go_sem]) fun B hK => ?_
  (repeat' (first
    | refine AW_seq ?_
    | (refine AW_len 0 rfl fun hm => ?_); refine AW_region (id := 0) Γk3_ok [] (by kernel_rfl) ?_; simp  [-List.getD_eq_getElem?_getD, -List.drop_one, ↓splitB_true, ↓splitB_false, go_sem]
    | refine AW_region (id := 1) Γk3_ok [] (by kernel_rfl) ?_; simp  [-List.getD_eq_getElem?_getD, -List.drop_one, ↓splitB_true, ↓splitB_false, go_sem]
    | refine AW_region (id := 2) Γk3_ok [] (by kernel_rfl) ?_; simp  [-List.getD_eq_getElem?_getD, -List.drop_one, ↓splitB_true, ↓splitB_false, go_sem]
    | refine AW_region (id := 4) Γk3_ok [15] (by kernel_rfl) ?_; simp  [-List.getD_eq_getElem?_getD, -List.drop_one, ↓splitB_true, ↓splitB_false, go_sem, c7, ne_nil c7, Nat.sub_pos_of_lt c7]; try (refine ⟨fun s4a => ?_, fun s4a => ?_⟩ <;> (try simp [B_iff, B_not] at s4a) <;> try (refine ⟨fun s4b => ?_, fun s4b => ?_⟩ <;> (try simp [B_iff, B_not] at s4b)))
    | refine AW_region (id := 5) Γk3_ok [] (by kernel_rfl) ?_; simp  [-List.getD_eq_getElem?_getD, -List.drop_one, ↓splitB_true, ↓splitB_false, go_sem]
    | refine AW_region (id := 3) Γk3_ok [] (by kernel_rfl) ?_; simp  [-List.getD_eq_getElem?_getD, -List.drop_one, ↓splitB_true, ↓splitB_false, go_sem, wrapS (k := k) (by omega)]
    | refine AW_region (id := 6) Γk3_ok [] (by kernel_rfl) ?_; simp  [-List.getD_eq_getElem?_getD, -List.drop_one, ↓splitB_true, ↓splitB_false, go_sem]
    | refine AW_condA (c := .tmp 7) ?_; simp [-List.getD_eq_getElem?_getD, -List.drop_one, ↓splitB_true, ↓splitB_false, go_sem]; try first | (refine ⟨?_, ?_⟩ <;> change AW _ _ _ _ _ _) | (refine ⟨fun c7 => ?_, fun c7 => ?_⟩ <;> (try simp [B_iff, B_not] at c7))
    | refine AW_condA (c := .tmp 21) ?_; simp [-List.getD_eq_getElem?_getD, -List.drop_one, ↓splitB_true, ↓splitB_false, go_sem]; try first | (refine ⟨?_, ?_⟩ <;> change AW _ _ _ _ _ _) | (refine ⟨fun c21 => ?_, fun c21 => ?_⟩ <;> (try simp [B_iff, B_not] at c21))
    | (refine AW_block (id := 0) (AW_loop (ι := Nat) (fun k : Nat => ⟨(upd (upd (fun _ => .any) 0 (li cI xs)) 3 (.int .i64 k)), fun _ => none⟩) (fun k => k ≤ xs.length ∧ AllTill (fun i => 0 ≤ nth xs i ∧ nth xs i ≤ 7) k) (fun k => xs.length - k) (0) ?_ ?_ ?_); exact ⟨Nat.zero_le _, .zero _⟩; ((repeat' (first | exact sub_noneH (by assumption) | exact sub_none | refine sub_upd ?_ ?_ | refine sub_noneE ?_)) <;> simp [-List.getD_eq_getElem?_getD, -List.drop_one, ↓splitB_true, ↓splitB_false, go_sem]); rintro k ⟨hk, ht⟩)
    | (refine ⟨k + 1, ⟨by omega, ht.succ (by omega)⟩, by first | omega | (simp; done) | (simp; omega), ?_⟩; ((repeat' (first | exact sub_noneH (by assumption) | exact sub_none | refine sub_upd ?_ ?_ | refine sub_noneE ?_)) <;> simp [-List.getD_eq_getElem?_getD, -List.drop_one, ↓splitB_true, ↓splitB_false, go_sem]))
    | (refine AW_block ?_)
    | (refine AW_exit ?_; simp [-List.getD_eq_getElem?_getD, -List.drop_one, ↓splitB_true, ↓splitB_false, go_sem])
    | (refine AW_skip ?_; simp [-List.getD_eq_getElem?_getD, -List.drop_one, ↓splitB_true, ↓splitB_false, go_sem])
    | (refine AW_ret ?_; simp [-List.getD_eq_getElem?_getD, -List.drop_one, ↓splitB_true, ↓splitB_false, go_sem, Try.results160])
    | (intro hx; change AW _ _ _ _ _ _)
    | (refine ⟨?_, ?_⟩ <;> change AW _ _ _ _ _ _)
    | (intro hx; refine ⟨fun hs => ?_, fun hs => ?_⟩)
    | (refine ⟨fun hs => ?_, fun hs => ?_⟩)
    | (refine ⟨?_, fun hs => ?_⟩; change AW _ _ _ _ _ _)
    | (refine ⟨fun hs => ?_, ?_⟩; rotate_left; change AW _ _ _ _ _ _; rotate_left)))
  all_goals (first
    | (intro h; have := h k c7; omega)
    | exact fun i hi => ht i (by omega)
    | skip)
noncomputable def l6Letters_pureC : Con := .pure fun
  | [.list n_xs c_xs] => ((Is cI n_xs c_xs), .bool (B (LetOk (de cI c_xs))))
  | _ => (False, .any)
attribute [go_sem] l6Letters_pureC
theorem l6Letters_pureC_ok : ConOk Try.prog 160 l6Letters_pureC := by
  refine ⟨callable Try.func160 (by decide) rfl, fun args h => ?_⟩
  revert h
  dsimp only
  split
  · intro h
    obtain ⟨xs, rfl, rfl⟩ := h
    try simp only [de_cat] at *
    exact ⟨l6Letters_pure xs, by simp [go_sem]⟩
  · intro h
    exact h.elim
noncomputable def Γk4 : FuncId → Con := ext Γk3 160 l6Letters_pureC
attribute [go_sem] Γk4
theorem Γk4_ok : ∀ g, ConOk Try.prog g (Γk4 g) := ext_ok Γk3_ok l6Letters_pureC_ok

/-- No letter. -/
def noLet (n : Int) : Bool := !(decide (0 ≤ n) && decide (n ≤ 7))
theorem find_let {xs : List Int} : (0 ≤ findI noLet xs) = ¬ LetOk xs := by
  rw [findI_ge, eq_iff_iff]
  constructor
  · rintro ⟨i, h, e⟩ k
    have := k i h
    simp [noLet] at e
    omega
  · intro h
    apply Classical.byContradiction; intro h2
    apply h; intro i hi
    apply Classical.byContradiction; intro h3
    exact h2 ⟨i, hi, by simp [noLet]; omega⟩

theorem letters1_pure (n : Int)  : Pure Try.prog 191 [.int .i64 n] (.bool (noLet n)) := by
  refine Pure.of_walk Try.func191 rfl (by simp [Try.f191]) (by simp [-List.drop_one, go_sem]) fun B hK => ?_
  (repeat' (first
    | refine AW_seq ?_
    | refine AW_region (id := 0) Γk4_ok [] (by kernel_rfl) ?_; simp  [-List.getD_eq_getElem?_getD, -List.drop_one, ↓splitB_true, ↓splitB_false, go_sem, noLet]
    | refine AW_region (id := 1) Γk4_ok [] (by kernel_rfl) ?_; simp  [-List.getD_eq_getElem?_getD, -List.drop_one, ↓splitB_true, ↓splitB_false, go_sem, noLet]
    | (refine AW_block ?_)
    | (refine AW_exit ?_; simp [-List.getD_eq_getElem?_getD, -List.drop_one, ↓splitB_true, ↓splitB_false, go_sem])
    | (refine AW_skip ?_; simp [-List.getD_eq_getElem?_getD, -List.drop_one, ↓splitB_true, ↓splitB_false, go_sem])
    | (refine AW_ret ?_; simp [-List.getD_eq_getElem?_getD, -List.drop_one, ↓splitB_true, ↓splitB_false, go_sem, Try.results191, noLet])
    | (intro hx; change AW _ _ _ _ _ _)
    | (refine ⟨?_, ?_⟩ <;> change AW _ _ _ _ _ _)
    | (intro hx; refine ⟨fun hs => ?_, fun hs => ?_⟩)
    | (refine ⟨fun hs => ?_, fun hs => ?_⟩)
    | (refine ⟨?_, fun hs => ?_⟩; change AW _ _ _ _ _ _)
    | (refine ⟨fun hs => ?_, ?_⟩; rotate_left; change AW _ _ _ _ _ _; rotate_left)))
noncomputable def letters1_pureC : Con := .pure fun
  | [.int .i64 n] => (True, .bool (noLet n))
  | _ => (False, .any)
attribute [go_sem] letters1_pureC
theorem letters1_pureC_ok : ConOk Try.prog 191 letters1_pureC := by
  refine ⟨callable Try.func191 (by decide) rfl, fun args h => ?_⟩
  revert h
  dsimp only
  split
  · intro h
    skip
    skip
    exact ⟨letters1_pure _, by simp [go_sem]⟩
  · intro h
    exact h.elim
noncomputable def Γk5 : FuncId → Con := ext Γk4 191 letters1_pureC
attribute [go_sem] Γk5
theorem Γk5_ok : ∀ g, ConOk Try.prog g (Γk5 g) := ext_ok Γk4_ok letters1_pureC_ok

theorem indexLet_pure (xs : List Int)   : Pure Try.prog 206 [li cI xs, .fn 191 []] (.int .i64 (findI (noLet) xs)) := by
  refine Pure.of_walk Try.func206 rfl (by simp [Try.f206]) (by simp [-List.drop_one, go_sem]) fun B hK => ?_
  (repeat' (first
    | refine AW_seq ?_
    | (refine AW_len 0 rfl fun hm => ?_); refine AW_region (id := 0) Γk5_ok [] (by kernel_rfl) ?_; simp  [-List.getD_eq_getElem?_getD, -List.drop_one, ↓splitB_true, ↓splitB_false, go_sem]
    | refine AW_region (id := 1) Γk5_ok [] (by kernel_rfl) ?_; simp  [-List.getD_eq_getElem?_getD, -List.drop_one, ↓splitB_true, ↓splitB_false, go_sem]
    | refine AW_region (id := 2) Γk5_ok [] (by kernel_rfl) ?_; simp  [-List.getD_eq_getElem?_getD, -List.drop_one, ↓splitB_true, ↓splitB_false, go_sem]
    | refine AW_region (id := 3) Γk5_ok [] (by kernel_rfl) ?_; simp  [-List.getD_eq_getElem?_getD, -List.drop_one, ↓splitB_true, ↓splitB_false, go_sem]
    | refine AW_region (id := 4) Γk5_ok [] (by kernel_rfl) ?_; simp  [-List.getD_eq_getElem?_getD, -List.drop_one, ↓splitB_true, ↓splitB_false, go_sem, c9, ne_nil c9, Nat.sub_pos_of_lt c9]
    | refine AW_region (id := 5) Γk5_ok [] (by kernel_rfl) ?_; simp  [-List.getD_eq_getElem?_getD, -List.drop_one, ↓splitB_true, ↓splitB_false, go_sem]
    | refine AW_region (id := 6) Γk5_ok [] (by kernel_rfl) ?_; simp  [-List.getD_eq_getElem?_getD, -List.drop_one, ↓splitB_true, ↓splitB_false, go_sem, wrapS (k := k) (by omega)]
    | refine AW_region (id := 7) Γk5_ok [] (by kernel_rfl) ?_; simp  [-List.getD_eq_getElem?_getD, -List.drop_one, ↓splitB_true, ↓splitB_false, go_sem]
    | refine AW_condA (c := .tmp 9) ?_; simp [-List.getD_eq_getElem?_getD, -List.drop_one, ↓splitB_true, ↓splitB_false, go_sem]; try first | (refine ⟨?_, ?_⟩ <;> change AW _ _ _ _ _ _) | (refine ⟨fun c9 => ?_, fun c9 => ?_⟩ <;> (try simp [B_iff, B_not] at c9))
    | refine AW_condA (c := .tmp 16) ?_; simp [-List.getD_eq_getElem?_getD, -List.drop_one, ↓splitB_true, ↓splitB_false, go_sem]; try first | (refine ⟨?_, ?_⟩ <;> change AW _ _ _ _ _ _) | (refine ⟨fun c16 => ?_, fun c16 => ?_⟩ <;> (try simp [B_iff, B_not] at c16))
    | (refine AW_block (id := 0) (AW_loop (ι := Nat) (fun k : Nat => ⟨(upd (upd (upd (upd (upd (fun _ => .any) 0 (li cI xs)) 1 (.fn 191 [])) 6 (li cI xs)) 7 (.int .i64 xs.length)) 8 (.int .i64 k)), fun _ => none⟩) (fun k => k ≤ xs.length ∧ NoneTill (fun i => (noLet) (nth xs i)) k) (fun k => xs.length - k) (0) ?_ ?_ ?_); exact ⟨Nat.zero_le _, .zero _⟩; ((repeat' (first | exact sub_noneH (by assumption) | exact sub_none | refine sub_upd ?_ ?_ | refine sub_noneE ?_)) <;> simp [-List.getD_eq_getElem?_getD, -List.drop_one, ↓splitB_true, ↓splitB_false, go_sem]); rintro k ⟨hk, ht⟩)
    | (refine ⟨k + 1, ⟨by omega, ht.succ (by simp_all)⟩, by first | omega | (simp; done) | (simp; omega), ?_⟩; ((repeat' (first | exact sub_noneH (by assumption) | exact sub_none | refine sub_upd ?_ ?_ | refine sub_noneE ?_)) <;> simp [-List.getD_eq_getElem?_getD, -List.drop_one, ↓splitB_true, ↓splitB_false, go_sem]))
    | (refine AW_block ?_)
    | (refine AW_exit ?_; simp [-List.getD_eq_getElem?_getD, -List.drop_one, ↓splitB_true, ↓splitB_false, go_sem])
    | (refine AW_skip ?_; simp [-List.getD_eq_getElem?_getD, -List.drop_one, ↓splitB_true, ↓splitB_false, go_sem])
    | (refine AW_ret ?_; simp [-List.getD_eq_getElem?_getD, -List.drop_one, ↓splitB_true, ↓splitB_false, go_sem, Try.results206])
    | (intro hx; change AW _ _ _ _ _ _)
    | (refine ⟨?_, ?_⟩ <;> change AW _ _ _ _ _ _)
    | (intro hx; refine ⟨fun hs => ?_, fun hs => ?_⟩)
    | (refine ⟨fun hs => ?_, fun hs => ?_⟩)
    | (refine ⟨?_, fun hs => ?_⟩; change AW _ _ _ _ _ _)
    | (refine ⟨fun hs => ?_, ?_⟩; rotate_left; change AW _ _ _ _ _ _; rotate_left)))
  all_goals (first
    | (rw [findI_at ht c9 (by simp_all)])
    | (rw [findI_none ht (by omega)])
    | skip)
noncomputable def indexLet_pureC : Con := .pure fun
  | [.list n_xs c_xs, .fn 191 []] => ((Is cI n_xs c_xs), .int .i64 (findI (noLet) (de cI c_xs)))
  | _ => (False, .any)
attribute [go_sem] indexLet_pureC
theorem indexLet_pureC_ok : ConOk Try.prog 206 indexLet_pureC := by
  refine ⟨callable Try.func206 (by decide) rfl, fun args h => ?_⟩
  revert h
  dsimp only
  split
  · intro h
    obtain ⟨xs, rfl, rfl⟩ := h
    try simp only [de_cat] at *
    exact ⟨indexLet_pure xs , by simp [go_sem]⟩
  · intro h
    exact h.elim
noncomputable def Γk6 : FuncId → Con := ext Γk5 206 indexLet_pureC
attribute [go_sem] Γk6
theorem Γk6_ok : ∀ g, ConOk Try.prog g (Γk6 g) := ext_ok Γk5_ok indexLet_pureC_ok

theorem containsLet_pure (xs : List Int)   : Pure Try.prog 188 [li cI xs, .fn 191 []] (.bool (decide (0 ≤ findI noLet xs))) := by
  refine Pure.of_walk Try.func188 rfl (by simp [Try.f188]) (by simp [-List.drop_one, go_sem]) fun B hK => ?_
  (repeat' (first
    | refine AW_seq ?_
    | refine AW_region (id := 0) Γk6_ok [] (by kernel_rfl) ?_; simp  [-List.getD_eq_getElem?_getD, -List.drop_one, ↓splitB_true, ↓splitB_false, go_sem]
    | refine AW_region (id := 1) Γk6_ok [] (by kernel_rfl) ?_; simp  [-List.getD_eq_getElem?_getD, -List.drop_one, ↓splitB_true, ↓splitB_false, go_sem]
    | (refine AW_block ?_)
    | (refine AW_exit ?_; simp [-List.getD_eq_getElem?_getD, -List.drop_one, ↓splitB_true, ↓splitB_false, go_sem])
    | (refine AW_skip ?_; simp [-List.getD_eq_getElem?_getD, -List.drop_one, ↓splitB_true, ↓splitB_false, go_sem])
    | (refine AW_ret ?_; simp [-List.getD_eq_getElem?_getD, -List.drop_one, ↓splitB_true, ↓splitB_false, go_sem, Try.results188])
    | (intro hx; change AW _ _ _ _ _ _)
    | (refine ⟨?_, ?_⟩ <;> change AW _ _ _ _ _ _)
    | (intro hx; refine ⟨fun hs => ?_, fun hs => ?_⟩)
    | (refine ⟨fun hs => ?_, fun hs => ?_⟩)
    | (refine ⟨?_, fun hs => ?_⟩; change AW _ _ _ _ _ _)
    | (refine ⟨fun hs => ?_, ?_⟩; rotate_left; change AW _ _ _ _ _ _; rotate_left)))
noncomputable def containsLet_pureC : Con := .pure fun
  | [.list n_xs c_xs, .fn 191 []] => ((Is cI n_xs c_xs), .bool (decide (0 ≤ findI noLet (de cI c_xs))))
  | _ => (False, .any)
attribute [go_sem] containsLet_pureC
theorem containsLet_pureC_ok : ConOk Try.prog 188 containsLet_pureC := by
  refine ⟨callable Try.func188 (by decide) rfl, fun args h => ?_⟩
  revert h
  dsimp only
  split
  · intro h
    obtain ⟨xs, rfl, rfl⟩ := h
    try simp only [de_cat] at *
    exact ⟨containsLet_pure xs , by simp [go_sem]⟩
  · intro h
    exact h.elim
noncomputable def Γk7 : FuncId → Con := ext Γk6 188 containsLet_pureC
attribute [go_sem] Γk7
theorem Γk7_ok : ∀ g, ConOk Try.prog g (Γk7 g) := ext_ok Γk6_ok containsLet_pureC_ok

theorem letters_pure (xs : List Int)  : Pure Try.prog 162 [li cI xs] (.bool (B (LetOk xs))) := by
  refine Pure.of_walk Try.func162 rfl (by simp [Try.f162]) (by simp [-List.drop_one, go_sem]) fun B hK => ?_
  (repeat' (first
    | refine AW_seq ?_
    | refine AW_region (id := 0) Γk7_ok [] (by kernel_rfl) ?_; simp  [-List.getD_eq_getElem?_getD, -List.drop_one, ↓splitB_true, ↓splitB_false, go_sem]
    | refine AW_region (id := 1) Γk7_ok [] (by kernel_rfl) ?_; simp  [-List.getD_eq_getElem?_getD, -List.drop_one, ↓splitB_true, ↓splitB_false, go_sem]
    | (refine AW_block ?_)
    | (refine AW_exit ?_; simp [-List.getD_eq_getElem?_getD, -List.drop_one, ↓splitB_true, ↓splitB_false, go_sem])
    | (refine AW_skip ?_; simp [-List.getD_eq_getElem?_getD, -List.drop_one, ↓splitB_true, ↓splitB_false, go_sem])
    | (refine AW_ret ?_; simp [-List.getD_eq_getElem?_getD, -List.drop_one, ↓splitB_true, ↓splitB_false, go_sem, Try.results162])
    | (intro hx; change AW _ _ _ _ _ _)
    | (refine ⟨?_, ?_⟩ <;> change AW _ _ _ _ _ _)
    | (intro hx; refine ⟨fun hs => ?_, fun hs => ?_⟩)
    | (refine ⟨fun hs => ?_, fun hs => ?_⟩)
    | (refine ⟨?_, fun hs => ?_⟩; change AW _ _ _ _ _ _)
    | (refine ⟨fun hs => ?_, ?_⟩; rotate_left; change AW _ _ _ _ _ _; rotate_left)))
  all_goals (first
    | (rw [Bool.eq_iff_iff, decide_eq_true_eq, find_let, Bool.not_eq_true', B_not])
    | (rw [Bool.eq_iff_iff, B_iff, Bool.not_eq_true', decide_eq_false_iff_not, find_let, Classical.not_not])
    | skip)
  all_goals trace_state
noncomputable def letters_pureC : Con := .pure fun
  | [.list n_xs c_xs] => ((Is cI n_xs c_xs), .bool (B (LetOk (de cI c_xs))))
  | _ => (False, .any)
attribute [go_sem] letters_pureC
theorem letters_pureC_ok : ConOk Try.prog 162 letters_pureC := by
  refine ⟨callable Try.func162 (by decide) rfl, fun args h => ?_⟩
  revert h
  dsimp only
  split
  · intro h
    obtain ⟨xs, rfl, rfl⟩ := h
    try simp only [de_cat] at *
    exact ⟨letters_pure xs, by simp [go_sem]⟩
  · intro h
    exact h.elim
noncomputable def Γk8 : FuncId → Con := ext Γk7 162 letters_pureC
attribute [go_sem] Γk8
theorem Γk8_ok : ∀ g, ConOk Try.prog g (Γk8 g) := ext_ok Γk7_ok letters_pureC_ok

theorem specLassoValid_pure (a : List Int) (b : List Int)  : Pure Try.prog 114 [.st [li cI a, li cI b]] (.bool (B (LasOk a b))) := by
  refine Pure.of_walk Try.func114 rfl (by simp [Try.f114]) (by simp [-List.drop_one, go_sem]) fun B hK => ?_
  (repeat' (first
    | refine AW_seq ?_
    | refine AW_region (id := 0) Γk8_ok [] (by kernel_rfl) ?_; simp  [-List.getD_eq_getElem?_getD, -List.drop_one, ↓splitB_true, ↓splitB_false, go_sem]; try (refine AW_data hK 1 ?_; simp [go_sem])
    | refine AW_region (id := 1) Γk8_ok [6, 11, 17, 23] (by kernel_rfl) ?_; simp  [-List.getD_eq_getElem?_getD, -List.drop_one, ↓splitB_true, ↓splitB_false, go_sem]; try (refine ⟨fun s1a => ?_, fun s1a => ?_⟩ <;> (try simp [B_iff, B_not] at s1a) <;> try (refine ⟨fun s1b => ?_, fun s1b => ?_⟩ <;> (try simp [B_iff, B_not] at s1b) <;> try (refine ⟨fun s1c => ?_, fun s1c => ?_⟩ <;> (try simp [B_iff, B_not] at s1c) <;> try (refine ⟨fun s1d => ?_, fun s1d => ?_⟩ <;> (try simp [B_iff, B_not] at s1d) <;> try (refine ⟨fun s1e => ?_, fun s1e => ?_⟩ <;> (try simp [B_iff, B_not] at s1e))))))
    | (refine AW_block ?_)
    | (refine AW_exit ?_; simp [-List.getD_eq_getElem?_getD, -List.drop_one, ↓splitB_true, ↓splitB_false, go_sem])
    | (refine AW_skip ?_; simp [-List.getD_eq_getElem?_getD, -List.drop_one, ↓splitB_true, ↓splitB_false, go_sem])
    | (refine AW_ret ?_; simp [-List.getD_eq_getElem?_getD, -List.drop_one, ↓splitB_true, ↓splitB_false, go_sem, Try.results114])
    | (intro hx; change AW _ _ _ _ _ _)
    | (refine ⟨?_, ?_⟩ <;> change AW _ _ _ _ _ _)
    | (intro hx; refine ⟨fun hs => ?_, fun hs => ?_⟩)
    | (refine ⟨fun hs => ?_, fun hs => ?_⟩)
    | (refine ⟨?_, fun hs => ?_⟩; change AW _ _ _ _ _ _)
    | (refine ⟨fun hs => ?_, ?_⟩; rotate_left; change AW _ _ _ _ _ _; rotate_left)))
  all_goals (first
    | (rintro ⟨g1, g2, g3, g4, g5⟩; omega)
    | (rintro ⟨g1, g2, g3, g4, g5⟩; simp_all; done)
    | (rw [Bool.eq_iff_iff, B_iff, decide_eq_true_eq]; exact ⟨fun h => ⟨s1a, s1b, by omega, by omega, by omega⟩, fun h => by have := h.2.2.2.2; omega⟩)
    | skip)
noncomputable def specLassoValid_pureC : Con := .pure fun
  | [.st [.list n_a c_a, .list n_b c_b]] => ((Is cI n_a c_a) ∧ (Is cI n_b c_b), .bool (B (LasOk (de cI c_a) (de cI c_b))))
  | _ => (False, .any)
attribute [go_sem] specLassoValid_pureC
theorem specLassoValid_pureC_ok : ConOk Try.prog 114 specLassoValid_pureC := by
  refine ⟨callable Try.func114 (by decide) rfl, fun args h => ?_⟩
  revert h
  dsimp only
  split
  · intro h
    obtain ⟨⟨a, rfl, rfl⟩, ⟨b, rfl, rfl⟩⟩ := h
    try simp only [de_cat] at *
    exact ⟨specLassoValid_pure a b, by simp [go_sem]⟩
  · intro h
    exact h.elim
noncomputable def Γk9 : FuncId → Con := ext Γk8 114 specLassoValid_pureC
attribute [go_sem] Γk9
theorem Γk9_ok : ∀ g, ConOk Try.prog g (Γk9 g) := ext_ok Γk8_ok specLassoValid_pureC_ok

theorem implLassoValid_pure (a : List Int) (b : List Int)  : Pure Try.prog 118 [.st [li cI a, li cI b]] (.bool (B (LasOk a b))) := by
  refine Pure.of_walk Try.func118 rfl (by simp [Try.f118]) (by simp [-List.drop_one, go_sem]) fun B hK => ?_
  (repeat' (first
    | refine AW_seq ?_
    | refine AW_region (id := 0) Γk9_ok [] (by kernel_rfl) ?_; simp  [-List.getD_eq_getElem?_getD, -List.drop_one, ↓splitB_true, ↓splitB_false, go_sem]; try (refine AW_data hK 1 ?_; simp [go_sem])
    | refine AW_region (id := 1) Γk9_ok [6, 11, 17] (by kernel_rfl) ?_; simp  [-List.getD_eq_getElem?_getD, -List.drop_one, ↓splitB_true, ↓splitB_false, go_sem]; try (refine ⟨fun s1a => ?_, fun s1a => ?_⟩ <;> (try simp [B_iff, B_not] at s1a) <;> try (refine ⟨fun s1b => ?_, fun s1b => ?_⟩ <;> (try simp [B_iff, B_not] at s1b) <;> try (refine ⟨fun s1c => ?_, fun s1c => ?_⟩ <;> (try simp [B_iff, B_not] at s1c) <;> try (refine ⟨fun s1d => ?_, fun s1d => ?_⟩ <;> (try simp [B_iff, B_not] at s1d)))))
    | (refine AW_block ?_)
    | (refine AW_exit ?_; simp [-List.getD_eq_getElem?_getD, -List.drop_one, ↓splitB_true, ↓splitB_false, go_sem])
    | (refine AW_skip ?_; simp [-List.getD_eq_getElem?_getD, -List.drop_one, ↓splitB_true, ↓splitB_false, go_sem])
    | (refine AW_ret ?_; simp [-List.getD_eq_getElem?_getD, -List.drop_one, ↓splitB_true, ↓splitB_false, go_sem, Try.results118])
    | (intro hx; change AW _ _ _ _ _ _)
    | (refine ⟨?_, ?_⟩ <;> change AW _ _ _ _ _ _)
    | (intro hx; refine ⟨fun hs => ?_, fun hs => ?_⟩)
    | (refine ⟨fun hs => ?_, fun hs => ?_⟩)
    | (refine ⟨?_, fun hs => ?_⟩; change AW _ _ _ _ _ _)
    | (refine ⟨fun hs => ?_, ?_⟩; rotate_left; change AW _ _ _ _ _ _; rotate_left)))
  all_goals (first
    | (rintro ⟨g1, g2, g3, g4, g5⟩; omega)
    | (rintro ⟨g1, g2, g3, g4, g5⟩; simp_all; done)
    | (rw [Bool.eq_iff_iff, B_iff, Bool.and_eq_true, decide_eq_true_eq, decide_eq_true_eq]; exact ⟨fun h => ⟨s1a, s1b, by omega, by omega, by omega⟩, fun h => by have := h.2.2.2; omega⟩)
    | skip)
noncomputable def implLassoValid_pureC : Con := .pure fun
  | [.st [.list n_a c_a, .list n_b c_b]] => ((Is cI n_a c_a) ∧ (Is cI n_b c_b), .bool (B (LasOk (de cI c_a) (de cI c_b))))
  | _ => (False, .any)
attribute [go_sem] implLassoValid_pureC
theorem implLassoValid_pureC_ok : ConOk Try.prog 118 implLassoValid_pureC := by
  refine ⟨callable Try.func118 (by decide) rfl, fun args h => ?_⟩
  revert h
  dsimp only
  split
  · intro h
    obtain ⟨⟨a, rfl, rfl⟩, ⟨b, rfl, rfl⟩⟩ := h
    try simp only [de_cat] at *
    exact ⟨implLassoValid_pure a b, by simp [go_sem]⟩
  · intro h
    exact h.elim
noncomputable def Γk10 : FuncId → Con := ext Γk9 118 implLassoValid_pureC
attribute [go_sem] Γk10
theorem Γk10_ok : ∀ g, ConOk Try.prog g (Γk10 g) := ext_ok Γk9_ok implLassoValid_pureC_ok

/-- Where a position behind the stem stands in the loop. -/
def turn (a b : List Int) (i : Int) : Nat := ((i - a.length).tmod b.length).toNat
theorem turn_lt {a b : List Int} {i : Int} (h : 0 < b.length) (hi : (a.length : Int) ≤ i) : (i - a.length).tmod b.length = turn a b i ∧ turn a b i < b.length := by
  have h1 : 0 ≤ (i - a.length).tmod b.length := Int.tmod_nonneg _ (by omega)
  have h2 : (i - a.length).tmod b.length < b.length := Int.tmod_lt_of_pos _ (by omega)
  unfold turn
  omega

theorem l6Index_pure (a : List Int) (b : List Int) (i : Int) (h0 : 0 < b.length) (h1 : b.length ≤ 80) (h2 : a.length ≤ 80) (h3 : 0 ≤ i) (h4 : i ≤ 9223372036854775807) : Pure Try.prog 161 [.st [li cI a, li cI b], .int .i64 i] (.int .i64 (if i < a.length then i else a.length + turn a b i)) := by
  refine Pure.of_walk Try.func161 rfl (by simp [Try.f161]) (by simp [-List.drop_one, go_sem]) fun B hK => ?_
  by_cases hi : i < (a.length : Int)
  all_goals (repeat' (first
    | refine AW_seq ?_
    | refine AW_region (id := 0) Γk10_ok [] (by kernel_rfl) ?_; simp  [-List.getD_eq_getElem?_getD, -List.drop_one, ↓splitB_true, ↓splitB_false, go_sem]; try (refine AW_data hK 2 ?_; simp [go_sem])
    | refine AW_region (id := 1) Γk10_ok [] (by kernel_rfl) ?_; simp  [-List.getD_eq_getElem?_getD, -List.drop_one, ↓splitB_true, ↓splitB_false, go_sem]
    | refine AW_region (id := 2) Γk10_ok [] (by kernel_rfl) ?_; simp  [-List.getD_eq_getElem?_getD, -List.drop_one, ↓splitB_true, ↓splitB_false, go_sem]
    | (obtain ⟨t1, t2⟩ := turn_lt (i := i) h0 (show (a.length : Int) ≤ i by omega)); refine AW_region_draw (id := 3) Γk10_ok mixed [] [2] (by kernel_rfl) (by kernel_rfl) (by simp [-List.getD_eq_getElem?_getD, -List.drop_one, ↓splitB_true, ↓splitB_false, go_sem, wrap_in (x := i - a.length) (by omega) (by omega), t1, wrap_in (x := (a.length : Int) + turn a b i) (by omega) (by omega), (show ¬ b = [] by rintro rfl; simp at h0)]) ?_; simp  [-List.getD_eq_getElem?_getD, -List.drop_one, ↓splitB_true, ↓splitB_false, go_sem, wrap_in (x := i - a.length) (by omega) (by omega), t1, wrap_in (x := (a.length : Int) + turn a b i) (by omega) (by omega), (show ¬ b = [] by rintro rfl; simp at h0)]
    | refine AW_condA (c := .tmp 9) ?_; simp [-List.getD_eq_getElem?_getD, -List.drop_one, ↓splitB_true, ↓splitB_false, go_sem]; try first | (refine ⟨?_, ?_⟩ <;> change AW _ _ _ _ _ _) | (refine ⟨fun c9 => ?_, fun c9 => ?_⟩ <;> (try simp [B_iff, B_not] at c9))
    | (refine AW_block ?_)
    | (refine AW_exit ?_; simp [-List.getD_eq_getElem?_getD, -List.drop_one, ↓splitB_true, ↓splitB_false, go_sem])
    | (refine AW_skip ?_; simp [-List.getD_eq_getElem?_getD, -List.drop_one, ↓splitB_true, ↓splitB_false, go_sem])
    | (refine AW_ret ?_; simp [-List.getD_eq_getElem?_getD, -List.drop_one, ↓splitB_true, ↓splitB_false, go_sem, Try.results161])
    | (intro hx; change AW _ _ _ _ _ _)
    | (refine ⟨?_, ?_⟩ <;> change AW _ _ _ _ _ _)
    | (intro hx; refine ⟨fun hs => ?_, fun hs => ?_⟩)
    | (refine ⟨fun hs => ?_, fun hs => ?_⟩)
    | (refine ⟨?_, fun hs => ?_⟩; change AW _ _ _ _ _ _)
    | (refine ⟨fun hs => ?_, ?_⟩; rotate_left; change AW _ _ _ _ _ _; rotate_left)))
  all_goals (first
    | (rw [if_pos hi])
    | (rw [if_neg hi])
    | (intro h; exact absurd h hi)
    | (intro h; omega)
    | (simp_all; done)
    | skip)
noncomputable def l6Index_pureC : Con := .pure fun
  | [.st [.list n_a c_a, .list n_b c_b], .int .i64 i] => ((Is cI n_a c_a) ∧ (Is cI n_b c_b) ∧ (0 < (de cI c_b).length) ∧ ((de cI c_b).length ≤ 80) ∧ ((de cI c_a).length ≤ 80) ∧ (0 ≤ i) ∧ (i ≤ 9223372036854775807), .int .i64 (if i < (de cI c_a).length then i else (de cI c_a).length + turn (de cI c_a) (de cI c_b) i))
  | _ => (False, .any)
attribute [go_sem] l6Index_pureC
theorem l6Index_pureC_ok : ConOk Try.prog 161 l6Index_pureC := by
  refine ⟨callable Try.func161 (by decide) rfl, fun args h => ?_⟩
  revert h
  dsimp only
  split
  · intro h
    obtain ⟨⟨a, rfl, rfl⟩, ⟨b, rfl, rfl⟩, h0, h1, h2, h3, h4⟩ := h
    try simp only [de_cat] at *
    exact ⟨l6Index_pure a b _ h0 h1 h2 h3 h4, by simp [go_sem]⟩
  · intro h
    exact h.elim
noncomputable def Γk11 : FuncId → Con := ext Γk10 161 l6Index_pureC
attribute [go_sem] Γk11
theorem Γk11_ok : ∀ g, ConOk Try.prog g (Γk11 g) := ext_ok Γk10_ok l6Index_pureC_ok

theorem turn_in {a b : List Int} {i : Int} (h1 : (a.length : Int) ≤ i) (h2 : i < (a.length : Int) + b.length) : (turn a b i : Int) = i - a.length := by
  unfold turn
  have h3 : (i - (a.length : Int)).tmod b.length = i - a.length := Int.tmod_eq_of_lt (by omega) (by omega)
  rw [h3]; omega
theorem turn_end (a b : List Int) : turn a b ((a.length : Int) + b.length) = 0 := by
  unfold turn
  rw [show (a.length : Int) + (b.length : Int) - (a.length : Int) = b.length by omega, Int.tmod_self]; rfl
theorem nth_appK {xs ys : List Int} {i : Nat} (h : xs.length ≤ i) : nth (xs ++ ys) i = nth ys (i - xs.length) := by
  simp only [nth, List.getD_eq_getElem?_getD]; rw [List.getElem?_append_right h]

theorem letterAt_pure (a : List Int) (b : List Int) (i : Int) (hL : LasOk a b) (h0 : 0 ≤ i) (h1 : i < (a.length : Int) + b.length) : Pure Try.prog 115 [.st [li cI a, li cI b], .int .i64 i] (.tup [.int .i64 (nth (a ++ b) i.toNat), .bool true]) := by
  refine Pure.of_walk Try.func115 rfl (by simp [Try.f115]) (by simp [-List.drop_one, go_sem]) fun B hK => ?_
  obtain ⟨l1, l2, l3, l4, l5⟩ := id hL; by_cases hi : i < (a.length : Int)
  all_goals (repeat' (first
    | refine AW_seq ?_
    | refine AW_region (id := 0) Γk11_ok [] (by kernel_rfl) ?_; simp  [-List.getD_eq_getElem?_getD, -List.drop_one, ↓splitB_true, ↓splitB_false, go_sem]; try (refine AW_data hK 2 ?_; simp [go_sem])
    | refine AW_region (id := 1) Γk11_ok [10] (by kernel_rfl) ?_; simp  [-List.getD_eq_getElem?_getD, -List.drop_one, ↓splitB_true, ↓splitB_false, go_sem, B_yes hL, h0, (show ¬ i < 0 by omega)]; try (refine ⟨fun s1a => ?_, fun s1a => ?_⟩ <;> (try simp [B_iff, B_not] at s1a) <;> try (refine ⟨fun s1b => ?_, fun s1b => ?_⟩ <;> (try simp [B_iff, B_not] at s1b)))
    | refine AW_region (id := 2) Γk11_ok [] (by kernel_rfl) ?_; simp  [-List.getD_eq_getElem?_getD, -List.drop_one, ↓splitB_true, ↓splitB_false, go_sem]
    | ((have ht := fun h => turn_in (a := a) (b := b) (i := i) h h1); (have hna := fun h => nth_app1 (xs := a) (ys := b) (i := i.toNat) h); (have hnb := fun h => nth_appK (xs := a) (ys := b) (i := i.toNat) h)); refine AW_region (id := 3) Γk11_ok [] (by kernel_rfl) ?_; simp  [-List.getD_eq_getElem?_getD, -List.drop_one, ↓splitB_true, ↓splitB_false, go_sem, (show 0 < b.length by omega), l5, l3, h0, (show i ≤ 9223372036854775807 by omega)]; try ((first | (rw [if_pos hi]; have h9 := hna (by omega)) | (rw [if_neg hi]; have h9 := hnb (by omega); have h8 := ht (by omega))))
    | refine AW_region (id := 4) Γk11_ok [] (by kernel_rfl) ?_; simp  [-List.getD_eq_getElem?_getD, -List.drop_one, ↓splitB_true, ↓splitB_false, go_sem, hi, h8, (show (a.length : Int) + (i - (a.length : Int)) = i by omega)]
    | refine AW_region (id := 4) Γk11_ok [] (by kernel_rfl) ?_; simp  [-List.getD_eq_getElem?_getD, -List.drop_one, ↓splitB_true, ↓splitB_false, go_sem, hi]
    | refine AW_region (id := 5) Γk11_ok [] (by kernel_rfl) ?_; simp  [-List.getD_eq_getElem?_getD, -List.drop_one, ↓splitB_true, ↓splitB_false, go_sem, h0, hi, h9, (show i.toNat < a.length by omega), (show 0 < a.length - i.toNat by omega), (show ¬ a = [] by rintro rfl; simp at hi; omega)]
    | refine AW_region (id := 6) Γk11_ok [] (by kernel_rfl) ?_; simp  [-List.getD_eq_getElem?_getD, -List.drop_one, ↓splitB_true, ↓splitB_false, go_sem, h0, hi, h8, h9, (show (a.length : Int) + (i - (a.length : Int)) = i by omega), wrap_in (x := i - a.length) (by omega) (by omega), (show (i - (a.length : Int)).toNat = i.toNat - a.length by omega), (show i.toNat - a.length < b.length by omega), (show 0 ≤ i - (a.length : Int) by omega), (show i - (a.length : Int) < (b.length : Int) by omega), (show (a.length : Int) ≤ i by omega), (show ¬ b = [] by rintro rfl; simp at l4), (show 0 < b.length - (i.toNat - a.length) by omega)]
    | refine AW_condA (c := .tmp 13) ?_; simp [-List.getD_eq_getElem?_getD, -List.drop_one, ↓splitB_true, ↓splitB_false, go_sem]; try first | (refine ⟨?_, ?_⟩ <;> change AW _ _ _ _ _ _) | (refine ⟨fun c13 => ?_, fun c13 => ?_⟩ <;> (try simp [B_iff, B_not] at c13))
    | refine AW_condA (c := .tmp 21) ?_; simp [-List.getD_eq_getElem?_getD, -List.drop_one, ↓splitB_true, ↓splitB_false, go_sem]; try first | (refine ⟨?_, ?_⟩ <;> change AW _ _ _ _ _ _) | (refine ⟨fun c21 => ?_, fun c21 => ?_⟩ <;> (try simp [B_iff, B_not] at c21))
    | (refine AW_block ?_)
    | (refine AW_exit ?_; simp [-List.getD_eq_getElem?_getD, -List.drop_one, ↓splitB_true, ↓splitB_false, go_sem])
    | (refine AW_skip ?_; simp [-List.getD_eq_getElem?_getD, -List.drop_one, ↓splitB_true, ↓splitB_false, go_sem])
    | (refine AW_ret ?_; simp [-List.getD_eq_getElem?_getD, -List.drop_one, ↓splitB_true, ↓splitB_false, go_sem, Try.results115])
    | (intro hx; change AW _ _ _ _ _ _)
    | (refine ⟨?_, ?_⟩ <;> change AW _ _ _ _ _ _)
    | (intro hx; refine ⟨fun hs => ?_, fun hs => ?_⟩)
    | (refine ⟨fun hs => ?_, fun hs => ?_⟩)
    | (refine ⟨?_, fun hs => ?_⟩; change AW _ _ _ _ _ _)
    | (refine ⟨fun hs => ?_, ?_⟩; rotate_left; change AW _ _ _ _ _ _; rotate_left)))
noncomputable def letterAt_pureC : Con := .pure fun
  | [.st [.list n_a c_a, .list n_b c_b], .int .i64 i] => ((Is cI n_a c_a) ∧ (Is cI n_b c_b) ∧ (LasOk (de cI c_a) (de cI c_b)) ∧ (0 ≤ i) ∧ (i < ((de cI c_a).length : Int) + (de cI c_b).length), .tup [.int .i64 (nth ((de cI c_a) ++ (de cI c_b)) i.toNat), .bool true])
  | _ => (False, .any)
attribute [go_sem] letterAt_pureC
theorem letterAt_pureC_ok : ConOk Try.prog 115 letterAt_pureC := by
  refine ⟨callable Try.func115 (by decide) rfl, fun args h => ?_⟩
  revert h
  dsimp only
  split
  · intro h
    obtain ⟨⟨a, rfl, rfl⟩, ⟨b, rfl, rfl⟩, hL, h0, h1⟩ := h
    try simp only [de_cat] at *
    exact ⟨letterAt_pure a b _ hL h0 h1, by simp [go_sem]⟩
  · intro h
    exact h.elim
noncomputable def Γk12 : FuncId → Con := ext Γk11 115 letterAt_pureC
attribute [go_sem] Γk12
theorem Γk12_ok : ∀ g, ConOk Try.prog g (Γk12 g) := ext_ok Γk11_ok letterAt_pureC_ok

/-- The place behind. -/
def nxI (a b : List Int) (i : Nat) : Nat := if i + 1 = a.length + b.length then a.length else i + 1
theorem nxI_lt {a b : List Int} {i : Nat} (h : 0 < b.length) (hi : i < a.length + b.length) : nxI a b i < a.length + b.length := by
  unfold nxI; split <;> omega

theorem l6Next_pure (a : List Int) (b : List Int) (i : Int) (hL : LasOk a b) (h0 : 0 ≤ i) (h1 : i < (a.length : Int) + b.length) : Pure Try.prog 116 [.st [li cI a, li cI b], .int .i64 i] (.int .i64 ((nxI a b i.toNat : Nat) : Int)) := by
  refine Pure.of_walk Try.func116 rfl (by simp [Try.f116]) (by simp [-List.drop_one, go_sem]) fun B hK => ?_
  obtain ⟨l1, l2, l3, l4, l5⟩ := id hL
  all_goals (repeat' (first
    | refine AW_seq ?_
    | refine AW_region (id := 0) Γk12_ok [] (by kernel_rfl) ?_; simp  [-List.getD_eq_getElem?_getD, -List.drop_one, ↓splitB_true, ↓splitB_false, go_sem]; try (refine AW_data hK 2 ?_; simp [go_sem])
    | refine AW_region (id := 1) Γk12_ok [] (by kernel_rfl) ?_; simp  [-List.getD_eq_getElem?_getD, -List.drop_one, ↓splitB_true, ↓splitB_false, go_sem, wrap_in (x := i + 1) (by omega) (by omega), (show 0 < b.length by omega), l5, l3, (show 0 ≤ i + 1 by omega), (show i + 1 ≤ 9223372036854775807 by omega)]
    | (refine AW_block ?_)
    | (refine AW_exit ?_; simp [-List.getD_eq_getElem?_getD, -List.drop_one, ↓splitB_true, ↓splitB_false, go_sem])
    | (refine AW_skip ?_; simp [-List.getD_eq_getElem?_getD, -List.drop_one, ↓splitB_true, ↓splitB_false, go_sem])
    | (refine AW_ret ?_; simp [-List.getD_eq_getElem?_getD, -List.drop_one, ↓splitB_true, ↓splitB_false, go_sem, Try.results116])
    | (intro hx; change AW _ _ _ _ _ _)
    | (refine ⟨?_, ?_⟩ <;> change AW _ _ _ _ _ _)
    | (intro hx; refine ⟨fun hs => ?_, fun hs => ?_⟩)
    | (refine ⟨fun hs => ?_, fun hs => ?_⟩)
    | (refine ⟨?_, fun hs => ?_⟩; change AW _ _ _ _ _ _)
    | (refine ⟨fun hs => ?_, ?_⟩; rotate_left; change AW _ _ _ _ _ _; rotate_left)))
  all_goals (first
    | (unfold nxI; by_cases e : i + 1 = (a.length : Int) + b.length; (rw [if_neg (by omega), e, turn_end, if_pos (by omega)]; simp); (rw [if_neg (show ¬ i.toNat + 1 = a.length + b.length by omega)]; split; omega; (rw [turn_in (by omega) (by omega)]; omega)))
    | skip)
noncomputable def l6Next_pureC : Con := .pure fun
  | [.st [.list n_a c_a, .list n_b c_b], .int .i64 i] => ((Is cI n_a c_a) ∧ (Is cI n_b c_b) ∧ (LasOk (de cI c_a) (de cI c_b)) ∧ (0 ≤ i) ∧ (i < ((de cI c_a).length : Int) + (de cI c_b).length), .int .i64 ((nxI (de cI c_a) (de cI c_b) i.toNat : Nat) : Int))
  | _ => (False, .any)
attribute [go_sem] l6Next_pureC
theorem l6Next_pureC_ok : ConOk Try.prog 116 l6Next_pureC := by
  refine ⟨callable Try.func116 (by decide) rfl, fun args h => ?_⟩
  revert h
  dsimp only
  split
  · intro h
    obtain ⟨⟨a, rfl, rfl⟩, ⟨b, rfl, rfl⟩, hL, h0, h1⟩ := h
    try simp only [de_cat] at *
    exact ⟨l6Next_pure a b _ hL h0 h1, by simp [go_sem]⟩
  · intro h
    exact h.elim
noncomputable def Γk13 : FuncId → Con := ext Γk12 116 l6Next_pureC
attribute [go_sem] Γk13
theorem Γk13_ok : ∀ g, ConOk Try.prog g (Γk13 g) := ext_ok Γk12_ok l6Next_pureC_ok

theorem implNext_pure (a : List Int) (b : List Int) (i : Int) (hL : LasOk a b) (h0 : 0 ≤ i) (h1 : i < (a.length : Int) + b.length) : Pure Try.prog 165 [.st [li cI a, li cI b], .int .i64 i] (.int .i64 ((nxI a b i.toNat : Nat) : Int)) := by
  refine Pure.of_walk Try.func165 rfl (by simp [Try.f165]) (by simp [-List.drop_one, go_sem]) fun B hK => ?_
  obtain ⟨l1, l2, l3, l4, l5⟩ := id hL
  all_goals (repeat' (first
    | refine AW_seq ?_
    | refine AW_region (id := 0) Γk13_ok [] (by kernel_rfl) ?_; simp  [-List.getD_eq_getElem?_getD, -List.drop_one, ↓splitB_true, ↓splitB_false, go_sem]; try (refine AW_data hK 2 ?_; simp [go_sem])
    | refine AW_region (id := 1) Γk13_ok [] (by kernel_rfl) ?_; simp  [-List.getD_eq_getElem?_getD, -List.drop_one, ↓splitB_true, ↓splitB_false, go_sem, wrap_in (x := i + 1) (by omega) (by omega), wrap_in (x := (a.length : Int) + (b.length : Int)) (by omega) (by omega)]
    | refine AW_region (id := 2) Γk13_ok [] (by kernel_rfl) ?_; simp  [-List.getD_eq_getElem?_getD, -List.drop_one, ↓splitB_true, ↓splitB_false, go_sem]
    | refine AW_region (id := 3) Γk13_ok [] (by kernel_rfl) ?_; simp  [-List.getD_eq_getElem?_getD, -List.drop_one, ↓splitB_true, ↓splitB_false, go_sem, wrap_in (x := i + 1) (by omega) (by omega)]
    | refine AW_condA (c := .tmp 14) ?_; simp [-List.getD_eq_getElem?_getD, -List.drop_one, ↓splitB_true, ↓splitB_false, go_sem]; try first | (refine ⟨?_, ?_⟩ <;> change AW _ _ _ _ _ _) | (refine ⟨fun c14 => ?_, fun c14 => ?_⟩ <;> (try simp [B_iff, B_not] at c14))
    | (refine AW_block ?_)
    | (refine AW_exit ?_; simp [-List.getD_eq_getElem?_getD, -List.drop_one, ↓splitB_true, ↓splitB_false, go_sem])
    | (refine AW_skip ?_; simp [-List.getD_eq_getElem?_getD, -List.drop_one, ↓splitB_true, ↓splitB_false, go_sem])
    | (refine AW_ret ?_; simp [-List.getD_eq_getElem?_getD, -List.drop_one, ↓splitB_true, ↓splitB_false, go_sem, Try.results165])
    | (intro hx; change AW _ _ _ _ _ _)
    | (refine ⟨?_, ?_⟩ <;> change AW _ _ _ _ _ _)
    | (intro hx; refine ⟨fun hs => ?_, fun hs => ?_⟩)
    | (refine ⟨fun hs => ?_, fun hs => ?_⟩)
    | (refine ⟨?_, fun hs => ?_⟩; change AW _ _ _ _ _ _)
    | (refine ⟨fun hs => ?_, ?_⟩; rotate_left; change AW _ _ _ _ _ _; rotate_left)))
  all_goals (first
    | (unfold nxI; rw [if_pos (by omega)])
    | (unfold nxI; rw [if_neg (by omega)]; omega)
    | skip)
noncomputable def implNext_pureC : Con := .pure fun
  | [.st [.list n_a c_a, .list n_b c_b], .int .i64 i] => ((Is cI n_a c_a) ∧ (Is cI n_b c_b) ∧ (LasOk (de cI c_a) (de cI c_b)) ∧ (0 ≤ i) ∧ (i < ((de cI c_a).length : Int) + (de cI c_b).length), .int .i64 ((nxI (de cI c_a) (de cI c_b) i.toNat : Nat) : Int))
  | _ => (False, .any)
attribute [go_sem] implNext_pureC
theorem implNext_pureC_ok : ConOk Try.prog 165 implNext_pureC := by
  refine ⟨callable Try.func165 (by decide) rfl, fun args h => ?_⟩
  revert h
  dsimp only
  split
  · intro h
    obtain ⟨⟨a, rfl, rfl⟩, ⟨b, rfl, rfl⟩, hL, h0, h1⟩ := h
    try simp only [de_cat] at *
    exact ⟨implNext_pure a b _ hL h0 h1, by simp [go_sem]⟩
  · intro h
    exact h.elim
noncomputable def Γk14 : FuncId → Con := ext Γk13 165 implNext_pureC
attribute [go_sem] Γk14
theorem Γk14_ok : ∀ g, ConOk Try.prog g (Γk14 g) := ext_ok Γk13_ok implNext_pureC_ok

theorem all_pure (a : List Int) (b : List Int) (hL : LasOk a b) : Pure Try.prog 163 [.st [li cI a, li cI b]] (fr 1 cI (a ++ b)) := by
  refine Pure.of_walk Try.func163 rfl (by simp [Try.f163]) (by simp [-List.drop_one, go_sem]) fun B hK => ?_
  obtain ⟨l1, l2, l3, l4, l5⟩ := id hL; have hf : [a, b].flatten = a ++ b := (by simp)
  all_goals (repeat' (first
    | refine AW_seq ?_
    | refine AW_region (id := 0) Γk14_ok [] (by kernel_rfl) ?_; simp  [-List.getD_eq_getElem?_getD, -List.drop_one, ↓splitB_true, ↓splitB_false, go_sem]; try (refine AW_data hK 1 ?_; simp [go_sem])
    | refine AW_region (id := 1) Γk14_ok [] (by kernel_rfl) ?_; simp  [-List.getD_eq_getElem?_getD, -List.drop_one, ↓splitB_true, ↓splitB_false, go_sem, hf, makeD_two, (show a.length + b.length ≤ 1048576 by omega)]
    | (refine AW_block ?_)
    | (refine AW_exit ?_; simp [-List.getD_eq_getElem?_getD, -List.drop_one, ↓splitB_true, ↓splitB_false, go_sem])
    | (refine AW_skip ?_; simp [-List.getD_eq_getElem?_getD, -List.drop_one, ↓splitB_true, ↓splitB_false, go_sem])
    | (refine AW_ret ?_; simp [-List.getD_eq_getElem?_getD, -List.drop_one, ↓splitB_true, ↓splitB_false, go_sem, Try.results163])
    | (intro hx; change AW _ _ _ _ _ _)
    | (refine ⟨?_, ?_⟩ <;> change AW _ _ _ _ _ _)
    | (intro hx; refine ⟨fun hs => ?_, fun hs => ?_⟩)
    | (refine ⟨fun hs => ?_, fun hs => ?_⟩)
    | (refine ⟨?_, fun hs => ?_⟩; change AW _ _ _ _ _ _)
    | (refine ⟨fun hs => ?_, ?_⟩; rotate_left; change AW _ _ _ _ _ _; rotate_left)))
noncomputable def all_pureC : Con := .pure fun
  | [.st [.list n_a c_a, .list n_b c_b]] => ((Is cI n_a c_a) ∧ (Is cI n_b c_b) ∧ (LasOk (de cI c_a) (de cI c_b)), fr 1 cI ((de cI c_a) ++ (de cI c_b)))
  | _ => (False, .any)
attribute [go_sem] all_pureC
theorem all_pureC_ok : ConOk Try.prog 163 all_pureC := by
  refine ⟨callable Try.func163 (by decide) rfl, fun args h => ?_⟩
  revert h
  dsimp only
  split
  · intro h
    obtain ⟨⟨a, rfl, rfl⟩, ⟨b, rfl, rfl⟩, hL⟩ := h
    try simp only [de_cat] at *
    exact ⟨all_pure a b hL, by simp [go_sem]⟩
  · intro h
    exact h.elim
noncomputable def Γk15 : FuncId → Con := ext Γk14 163 all_pureC
attribute [go_sem] Γk15
theorem Γk15_ok : ∀ g, ConOk Try.prog g (Γk15 g) := ext_ok Γk14_ok all_pureC_ok

/-- An edge can be taken with a letter. -/
def tk (x : Int) (e : Tr4) : Bool := decide (bitsD .and .i64 x e.2.1 = e.2.2.1)

theorem on_pure (p : Int) (q : Int) (r : Int) (s : Int) (x : Int)  : Pure Try.prog 117 [.st [.int .i64 p, .int .i64 q, .int .i64 r, .int .i64 s], .int .i64 x] (.bool (tk x (p, q, r, s))) := by
  refine Pure.of_walk Try.func117 rfl (by simp [Try.f117]) (by simp [-List.drop_one, go_sem]) fun B hK => ?_
  (repeat' (first
    | refine AW_seq ?_
    | refine AW_region (id := 0) Γk15_ok [] (by kernel_rfl) ?_; simp  [-List.getD_eq_getElem?_getD, -List.drop_one, ↓splitB_true, ↓splitB_false, go_sem, tk]; try (refine AW_data hK 2 ?_; simp [go_sem])
    | refine AW_region (id := 1) Γk15_ok [] (by kernel_rfl) ?_; simp  [-List.getD_eq_getElem?_getD, -List.drop_one, ↓splitB_true, ↓splitB_false, go_sem, tk]
    | (refine AW_block ?_)
    | (refine AW_exit ?_; simp [-List.getD_eq_getElem?_getD, -List.drop_one, ↓splitB_true, ↓splitB_false, go_sem])
    | (refine AW_skip ?_; simp [-List.getD_eq_getElem?_getD, -List.drop_one, ↓splitB_true, ↓splitB_false, go_sem])
    | (refine AW_ret ?_; simp [-List.getD_eq_getElem?_getD, -List.drop_one, ↓splitB_true, ↓splitB_false, go_sem, Try.results117, tk])
    | (intro hx; change AW _ _ _ _ _ _)
    | (refine ⟨?_, ?_⟩ <;> change AW _ _ _ _ _ _)
    | (intro hx; refine ⟨fun hs => ?_, fun hs => ?_⟩)
    | (refine ⟨fun hs => ?_, fun hs => ?_⟩)
    | (refine ⟨?_, fun hs => ?_⟩; change AW _ _ _ _ _ _)
    | (refine ⟨fun hs => ?_, ?_⟩; rotate_left; change AW _ _ _ _ _ _; rotate_left)))
noncomputable def on_pureC : Con := .pure fun
  | [.st [.int .i64 p, .int .i64 q, .int .i64 r, .int .i64 s], .int .i64 x] => (True, .bool (tk x (p, q, r, s)))
  | _ => (False, .any)
attribute [go_sem] on_pureC
theorem on_pureC_ok : ConOk Try.prog 117 on_pureC := by
  refine ⟨callable Try.func117 (by decide) rfl, fun args h => ?_⟩
  revert h
  dsimp only
  split
  · intro h
    skip
    skip
    exact ⟨on_pure _ _ _ _ _, by simp [go_sem]⟩
  · intro h
    exact h.elim
noncomputable def Γk16 : FuncId → Con := ext Γk15 117 on_pureC
attribute [go_sem] Γk16
theorem Γk16_ok : ∀ g, ConOk Try.prog g (Γk16 g) := ext_ok Γk15_ok on_pureC_ok

theorem takes_pure (p : Int) (q : Int) (r : Int) (s : Int) (x : Int)  : Pure Try.prog 164 [.st [.int .i64 p, .int .i64 q, .int .i64 r, .int .i64 s], .int .i64 x] (.bool (tk x (p, q, r, s))) := by
  refine Pure.of_walk Try.func164 rfl (by simp [Try.f164]) (by simp [-List.drop_one, go_sem]) fun B hK => ?_
  (repeat' (first
    | refine AW_seq ?_
    | refine AW_region (id := 0) Γk16_ok [] (by kernel_rfl) ?_; simp  [-List.getD_eq_getElem?_getD, -List.drop_one, ↓splitB_true, ↓splitB_false, go_sem, tk]; try (refine AW_data hK 2 ?_; simp [go_sem])
    | refine AW_region (id := 1) Γk16_ok [] (by kernel_rfl) ?_; simp  [-List.getD_eq_getElem?_getD, -List.drop_one, ↓splitB_true, ↓splitB_false, go_sem, tk]
    | (refine AW_block ?_)
    | (refine AW_exit ?_; simp [-List.getD_eq_getElem?_getD, -List.drop_one, ↓splitB_true, ↓splitB_false, go_sem])
    | (refine AW_skip ?_; simp [-List.getD_eq_getElem?_getD, -List.drop_one, ↓splitB_true, ↓splitB_false, go_sem])
    | (refine AW_ret ?_; simp [-List.getD_eq_getElem?_getD, -List.drop_one, ↓splitB_true, ↓splitB_false, go_sem, Try.results164, tk])
    | (intro hx; change AW _ _ _ _ _ _)
    | (refine ⟨?_, ?_⟩ <;> change AW _ _ _ _ _ _)
    | (intro hx; refine ⟨fun hs => ?_, fun hs => ?_⟩)
    | (refine ⟨fun hs => ?_, fun hs => ?_⟩)
    | (refine ⟨?_, fun hs => ?_⟩; change AW _ _ _ _ _ _)
    | (refine ⟨fun hs => ?_, ?_⟩; rotate_left; change AW _ _ _ _ _ _; rotate_left)))
noncomputable def takes_pureC : Con := .pure fun
  | [.st [.int .i64 p, .int .i64 q, .int .i64 r, .int .i64 s], .int .i64 x] => (True, .bool (tk x (p, q, r, s)))
  | _ => (False, .any)
attribute [go_sem] takes_pureC
theorem takes_pureC_ok : ConOk Try.prog 164 takes_pureC := by
  refine ⟨callable Try.func164 (by decide) rfl, fun args h => ?_⟩
  revert h
  dsimp only
  split
  · intro h
    skip
    skip
    exact ⟨takes_pure _ _ _ _ _, by simp [go_sem]⟩
  · intro h
    exact h.elim
noncomputable def Γk17 : FuncId → Con := ext Γk16 164 takes_pureC
attribute [go_sem] Γk17
theorem Γk17_ok : ∀ g, ConOk Try.prog g (Γk17 g) := ext_ok Γk16_ok takes_pureC_ok

end Go.Proofs.Ytoklpofekcclhaa.Vm

