/-
  Drawn: a valid or mutated lasso; an element of a list of texts. No conditions.
-/
import Derived.Test.YtlbbhkpjjciaiaaD12
namespace Go.Proofs.Ytlbbhkpjjciaiaa.Vm
open Go
set_option linter.unusedVariables false
set_option linter.unusedSimpArgs false
set_option maxRecDepth 200000

set_option maxHeartbeats 1000000 in
theorem drawLassoValid_pure (xs : List UInt8)  : Pure Try.prog 76 [li cY xs] (.st [fr 1 cI (xS xs), fr 1 cI (xL xs)]) := by
  refine Pure.of_walk Try.func76 rfl (by simp [Try.f76]) (by simp [-List.drop_one, go_sem]) fun B hK => ?_
  obtain ⟨r1, r2, r3, r4, r5, r6, r7⟩ := d_range (cut2000 xs) (p := 0) (by omega); obtain ⟨l1, l2⟩ := dL_range (cut2000 xs) (p := 0) (by omega); have hl := cut_len xs
  all_goals (repeat' (first
    | refine AW_seq ?_
    | refine AW_region (id := 0) Γs49_ok [] (by kernel_rfl) ?_; simp  [-List.getD_eq_getElem?_getD, -List.drop_one, ↓splitB_true, ↓splitB_false, go_sem]
    | refine AW_region (id := 1) Γs49_ok [] (by kernel_rfl) ?_; simp  [-List.getD_eq_getElem?_getD, -List.drop_one, ↓splitB_true, ↓splitB_false, go_sem]; try (refine AW_matBox 3 rfl fun b hb => ?_)
    | refine AW_region (id := 2) Γs49_ok [] (by kernel_rfl) ?_; simp  [-List.getD_eq_getElem?_getD, -List.drop_one, ↓splitB_true, ↓splitB_false, go_sem, hl, (show muS (cut2000 xs) (dq2 (cut2000 xs) 0 + 1) (dS (cut2000 xs) 0) = xS xs from rfl), (show muL (cut2000 xs) (dq2 (cut2000 xs) 0 + 1) (dL (cut2000 xs) 0) = xL xs from rfl), (show 0 ≤ dq2 (cut2000 xs) 0 + 1 by omega), (show dq2 (cut2000 xs) 0 + 1 ≤ 800000 by omega), (show (dS (cut2000 xs) 0).length ≤ 1000 by omega), l1, (show (dL (cut2000 xs) 0).length ≤ 1000 by omega)]
    | (refine AW_block ?_)
    | (refine AW_exit ?_; simp [-List.getD_eq_getElem?_getD, -List.drop_one, ↓splitB_true, ↓splitB_false, go_sem])
    | (refine AW_skip ?_; simp [-List.getD_eq_getElem?_getD, -List.drop_one, ↓splitB_true, ↓splitB_false, go_sem])
    | (refine AW_ret ?_; simp [-List.getD_eq_getElem?_getD, -List.drop_one, ↓splitB_true, ↓splitB_false, go_sem, Try.results76])
    | (intro hx; change AW _ _ _ _ _ _)
    | (refine ⟨?_, ?_⟩ <;> change AW _ _ _ _ _ _)
    | (intro hx; refine ⟨fun hs => ?_, fun hs => ?_⟩)
    | (refine ⟨fun hs => ?_, fun hs => ?_⟩)
    | (refine ⟨?_, fun hs => ?_⟩; change AW _ _ _ _ _ _)
    | (refine ⟨fun hs => ?_, ?_⟩; rotate_left; change AW _ _ _ _ _ _; rotate_left)))
noncomputable def drawLassoValid_pureC : Con := .pure fun
  | [.list n_xs c_xs] => ((Is cY n_xs c_xs), .st [fr 1 cI (xS (de cY c_xs)), fr 1 cI (xL (de cY c_xs))])
  | _ => (False, .any)
attribute [go_sem] drawLassoValid_pureC
theorem drawLassoValid_pureC_ok : ConOk Try.prog 76 drawLassoValid_pureC := by
  refine ⟨callable Try.func76 (by decide) rfl, fun args h => ?_⟩
  revert h
  dsimp only
  split
  · intro h
    obtain ⟨xs, rfl, rfl⟩ := h
    try simp only [de_cat] at *
    exact ⟨drawLassoValid_pure xs, by simp [go_sem]⟩
  · intro h
    exact h.elim
noncomputable def Γs50 : FuncId → Con := ext Γs49 76 drawLassoValid_pureC
attribute [go_sem] Γs50
theorem Γs50_ok : ∀ g, ConOk Try.prog g (Γs50 g) := ext_ok Γs49_ok drawLassoValid_pureC_ok

theorem drawFormatLasso_pure (xs : List UInt8)  : Pure Try.prog 45 [li cY xs] (.st [fr 1 cI (xS xs), fr 1 cI (xL xs)]) := by
  refine Pure.of_walk Try.func45 rfl (by simp [Try.f45]) (by simp [-List.drop_one, go_sem]) fun B hK => ?_
  (repeat' (first
    | refine AW_seq ?_
    | refine AW_region (id := 0) Γs50_ok [] (by kernel_rfl) ?_; simp  [-List.getD_eq_getElem?_getD, -List.drop_one, ↓splitB_true, ↓splitB_false, go_sem]
    | refine AW_region (id := 1) Γs50_ok [] (by kernel_rfl) ?_; simp  [-List.getD_eq_getElem?_getD, -List.drop_one, ↓splitB_true, ↓splitB_false, go_sem]
    | (refine AW_block ?_)
    | (refine AW_exit ?_; simp [-List.getD_eq_getElem?_getD, -List.drop_one, ↓splitB_true, ↓splitB_false, go_sem])
    | (refine AW_skip ?_; simp [-List.getD_eq_getElem?_getD, -List.drop_one, ↓splitB_true, ↓splitB_false, go_sem])
    | (refine AW_ret ?_; simp [-List.getD_eq_getElem?_getD, -List.drop_one, ↓splitB_true, ↓splitB_false, go_sem, Try.results45])
    | (intro hx; change AW _ _ _ _ _ _)
    | (refine ⟨?_, ?_⟩ <;> change AW _ _ _ _ _ _)
    | (intro hx; refine ⟨fun hs => ?_, fun hs => ?_⟩)
    | (refine ⟨fun hs => ?_, fun hs => ?_⟩)
    | (refine ⟨?_, fun hs => ?_⟩; change AW _ _ _ _ _ _)
    | (refine ⟨fun hs => ?_, ?_⟩; rotate_left; change AW _ _ _ _ _ _; rotate_left)))
noncomputable def drawFormatLasso_pureC : Con := .pure fun
  | [.list n_xs c_xs] => ((Is cY n_xs c_xs), .st [fr 1 cI (xS (de cY c_xs)), fr 1 cI (xL (de cY c_xs))])
  | _ => (False, .any)
attribute [go_sem] drawFormatLasso_pureC
theorem drawFormatLasso_pureC_ok : ConOk Try.prog 45 drawFormatLasso_pureC := by
  refine ⟨callable Try.func45 (by decide) rfl, fun args h => ?_⟩
  revert h
  dsimp only
  split
  · intro h
    obtain ⟨xs, rfl, rfl⟩ := h
    try simp only [de_cat] at *
    exact ⟨drawFormatLasso_pure xs, by simp [go_sem]⟩
  · intro h
    exact h.elim
noncomputable def Γs51 : FuncId → Con := ext Γs50 45 drawFormatLasso_pureC
attribute [go_sem] Γs51
theorem Γs51_ok : ∀ g, ConOk Try.prog g (Γs51 g) := ext_ok Γs50_ok drawFormatLasso_pureC_ok

/-- The text drawn out of a list. -/
noncomputable def ofT (ys : List UInt8) (p : Int) (xs : List (List UInt8)) : List UInt8 := nth xs (pkI ys p xs.length).toNat
theorem ldT_app {xs : List (List UInt8)} {i : Nat} (h : i < xs.length) (ys : List D) : (cat cStr xs ++ ys).getD i .any = .str (nth xs i) := by
  rw [List.getD_eq_getElem?_getD, List.getElem?_append_left (by rw [cat_length]; omega), ← List.getD_eq_getElem?_getD, cat_get1 h]; rfl
theorem of_spec (ys : List UInt8) (p : Int) (xs : List (List UInt8)) (b : Nat) (H : Hp) (hH : H b = some [li cY ys, .int .i64 p]) (h0 : 0 ≤ p) (hp : p ≤ 1000000) (hl : ys.length ≤ 2000) (hx : 1 ≤ xs.length) (hn : xs.length ≤ 1000000) :
    Spec Try.prog 90 [.ptr b 0, fr 1 cStr xs] H (.str (ofT ys p xs)) (upd H b (some [li cY ys, .int .i64 (p + 1)])) := by
  refine Spec.of_walk Try.func90 rfl (by simp [Try.f90]) fun B => ?_
  obtain ⟨k1, k2⟩ := pkI_range ys hp (n := (xs.length : Int)) (by omega)
  have k3 : (pkI ys p xs.length).toNat < xs.length := by omega
  (repeat' (first
    | refine AW_seq ?_
    | refine AW_region (id := 0) Γs51_ok [] (by kernel_rfl) ?_; simp  [-List.getD_eq_getElem?_getD, -List.drop_one, ↓splitB_true, ↓splitB_false, go_sem]; try (refine AW_mat 1 rfl fun c cp j hc hcp hj => ?_; have hbc : ¬ b = c := (by rintro rfl; dsimp only at hc; rw [hH] at hc; cases hc))
    | refine AW_region (id := 1) Γs51_ok [] (by kernel_rfl) ?_; simp  [-List.getD_eq_getElem?_getD, -List.drop_one, ↓splitB_true, ↓splitB_false, go_sem, hH, hbc, Ne.symm hbc, h0, hp, hl, k1, k2, k3, (show (xs.length : Int) ≤ 1000000 by omega), (show xs.length ≤ 1000000 by omega), ldT_app k3, (show (pkI ys p xs.length).toNat < xs.length + j by omega)]
    | (refine AW_block ?_)
    | (refine AW_exit ?_; simp [-List.getD_eq_getElem?_getD, -List.drop_one, ↓splitB_true, ↓splitB_false, go_sem])
    | (refine AW_skip ?_; simp [-List.getD_eq_getElem?_getD, -List.drop_one, ↓splitB_true, ↓splitB_false, go_sem])
    | (refine AW_ret ?_; simp [-List.getD_eq_getElem?_getD, -List.drop_one, ↓splitB_true, ↓splitB_false, go_sem, Try.results90])
    | (intro hx; change AW _ _ _ _ _ _)
    | (refine ⟨?_, ?_⟩ <;> change AW _ _ _ _ _ _)
    | (intro hx; refine ⟨fun hs => ?_, fun hs => ?_⟩)
    | (refine ⟨fun hs => ?_, fun hs => ?_⟩)
    | (refine ⟨?_, fun hs => ?_⟩; change AW _ _ _ _ _ _)
    | (refine ⟨fun hs => ?_, ?_⟩; rotate_left; change AW _ _ _ _ _ _; rotate_left)))
  all_goals (first
    | (refine ⟨rfl, fun b' cs' h => ?_⟩; dsimp only at hc; by_cases e1 : b' = b <;> by_cases e2 : b' = c <;> simp_all; done)
    | skip)
noncomputable def ofC : Con := .gen fun args H => match args with
  | [.ptr b 0, .fr 1 n ds] => match H b with
    | some [.list m cs, .int .i64 p] => (Is cY m cs ∧ Is cStr n ds ∧ 0 ≤ p ∧ p ≤ 1000000 ∧ m ≤ 2000 ∧ 1 ≤ n ∧ n ≤ 1000000, .str (ofT (de cY cs) p (de cStr ds)), upd H b (some [.list m cs, .int .i64 (p + 1)]))
    | _ => (False, .any, H)
  | _ => (False, .any, H)
attribute [go_sem] ofC
theorem ofC_ok : ConOk Try.prog 90 ofC := by
  refine ⟨callable Try.func90 (by decide) rfl, fun args H h => ?_⟩
  revert h
  dsimp only
  split
  · rename_i b n ds
    split
    · rename_i m cs p hH
      rintro ⟨⟨ys, rfl, rfl⟩, ⟨xs, rfl, rfl⟩, h0, h1, h2, h3, h4⟩
      rw [de_cat, de_cat]
      exact of_spec ys p xs b H hH h0 h1 h2 h3 h4
    · intro h; exact h.elim
  · intro h
    exact h.elim
noncomputable def Γs52 : FuncId → Con := ext Γs51 90 ofC
attribute [go_sem] Γs52
theorem Γs52_ok : ∀ g, ConOk Try.prog g (Γs52 g) := ext_ok Γs51_ok ofC_ok
end Go.Proofs.Ytlbbhkpjjciaiaa.Vm

