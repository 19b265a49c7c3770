/-
  What ParseLasso is asked of; a printed lasso read again. No conditions.
-/
import Derived.Test.YtlbbhkpjjciaiaaP7
namespace Go.Proofs.Ytlbbhkpjjciaiaa.Vm
open Go
set_option linter.unusedVariables false
set_option linter.unusedSimpArgs false
set_option maxRecDepth 200000

def Short (gs : List (List UInt8)) : Prop := ∀ t ∈ gs, t.length ≤ 10
noncomputable def bendC : Con := .gen fun args H => match args with
  | [.ptr b 0, .str s, .fr 1 n ds] => match H b with
    | some [.list m cs, .int .i64 p] => (Is cY m cs ∧ Is cStr n ds ∧ 0 ≤ p ∧ p ≤ 800000 ∧ m ≤ 2000 ∧ s.length ≤ 1000000 ∧ 1 ≤ n ∧ n ≤ 1000 ∧ Short (de cStr ds), .str (bendT (de cY cs) p s (de cStr ds)), upd H b (some [.list m cs, .int .i64 (bendP (de cY cs) p s)]))
    | _ => (False, .any, H)
  | _ => (False, .any, H)
attribute [go_sem] bendC
theorem bendC_ok : ConOk Try.prog 77 bendC := by
  refine ⟨callable Try.func77 (by decide) rfl, fun args H h => ?_⟩
  revert h
  dsimp only
  split
  · rename_i b s n ds
    split
    · rename_i m cs p hH
      rintro ⟨⟨ys, rfl, rfl⟩, ⟨gs, rfl, rfl⟩, h0, h1, h2, h3, h4, h5, h6⟩
      rw [de_cat, de_cat] at *
      exact bend_spec ys p s gs b H hH h0 h1 h2 h3 h4 h5 h6
    · intro h; exact h.elim
  · intro h
    exact h.elim
noncomputable def Γp19 : FuncId → Con := ext Γp18 77 bendC
attribute [go_sem] Γp19
theorem Γp19_ok : ∀ g, ConOk Try.prog g (Γp19 g) := ext_ok Γp18_ok bendC_ok

def signs : List (List UInt8) := [[], [40], [41], [48], [55], [56], [32], [97]]
@[go_sem] theorem sg_is : Is cStr 8 [.str [], .str [40], .str [41], .str [48], .str [55], .str [56], .str [32], .str [97]] = True := eq_true ⟨signs, rfl, rfl⟩
@[go_sem] theorem sg_de : de cStr [.str [], .str [40], .str [41], .str [48], .str [55], .str [56], .str [32], .str [97]] = signs := de_cat (f := cStr) signs
@[go_sem] theorem makeD_8 (x : D) : makeD [x] 8 = [x, x, x, x, x, x, x, x] := by rw [makeD_one]; rfl
theorem signs_ok : ∀ t ∈ signs, t.length ≤ 10 := by decide
@[go_sem] theorem signs_sh : Short signs = True := eq_true signs_ok
noncomputable def tX (xs : List UInt8) : List UInt8 := bendT (cut2000 xs) (dq2 (cut2000 xs) 0 + 1) (fmtL (dS (cut2000 xs) 0) (dL (cut2000 xs) 0)) signs
theorem fmtL_len (a b : List Int) : (fmtL a b).length ≤ a.length + b.length + 2 := by
  have l1 := digsT_len a
  have l2 := digsT_len b
  unfold fmtL; split <;> simp <;> omega
theorem tX_len (xs : List UInt8) : (tX xs).length ≤ 1000 := by
  obtain ⟨r1, r2, r3, r4, r5, r6, r7⟩ := d_range (cut2000 xs) (p := 0) (by omega)
  obtain ⟨l1, l2⟩ := dL_range (cut2000 xs) (p := 0) (by omega)
  have h1 := fmtL_len (dS (cut2000 xs) 0) (dL (cut2000 xs) 0)
  have h2 := ofT_le (cut2000 xs) (p := dq2 (cut2000 xs) 0 + 1 + 1 + 1) (by omega) (gs := signs) (by decide) signs_ok
  unfold tX bendT
  split
  · omega
  · split
    · omega
    · simp only [List.length_append, List.length_take, List.length_drop]; omega

set_option maxHeartbeats 1000000 in
theorem drawParseLasso_pure (xs : List UInt8)  : Pure Try.prog 46 [li cY xs] (.str (tX xs)) := by
  refine Pure.of_walk Try.func46 rfl (by simp [Try.f46]) (by simp [-List.drop_one, go_sem]) fun B hK => ?_
  obtain ⟨r1, r2, r3, r4, r5, r6, r7⟩ := d_range (cut2000 xs) (p := 0) (by omega); obtain ⟨l1, l2⟩ := dL_range (cut2000 xs) (p := 0) (by omega); have hl := cut_len xs; have h1 := fmtL_len (dS (cut2000 xs) 0) (dL (cut2000 xs) 0)
  all_goals (repeat' (first
    | refine AW_seq ?_
    | refine AW_region (id := 0) Γp19_ok [] (by kernel_rfl) ?_; simp  [-List.getD_eq_getElem?_getD, -List.drop_one, ↓splitB_true, ↓splitB_false, go_sem]
    | refine AW_region (id := 1) Γp19_ok [] (by kernel_rfl) ?_; simp  [-List.getD_eq_getElem?_getD, -List.drop_one, ↓splitB_true, ↓splitB_false, go_sem]; try (refine AW_matBox 3 rfl fun b hb => ?_)
    | refine AW_region (id := 2) Γp19_ok [] (by kernel_rfl) ?_; simp  [-List.getD_eq_getElem?_getD, -List.drop_one, ↓splitB_true, ↓splitB_false, go_sem, hl, (show 0 ≤ dq2 (cut2000 xs) 0 + 1 by omega), (show dq2 (cut2000 xs) 0 + 1 ≤ 800000 by omega), (show (fmtL (dS (cut2000 xs) 0) (dL (cut2000 xs) 0)).length ≤ 1000000 by omega), (show bendT (cut2000 xs) (dq2 (cut2000 xs) 0 + 1) (fmtL (dS (cut2000 xs) 0) (dL (cut2000 xs) 0)) signs = tX xs from rfl)]
    | (refine AW_block ?_)
    | (refine AW_exit ?_; simp [-List.getD_eq_getElem?_getD, -List.drop_one, ↓splitB_true, ↓splitB_false, go_sem])
    | (refine AW_skip ?_; simp [-List.getD_eq_getElem?_getD, -List.drop_one, ↓splitB_true, ↓splitB_false, go_sem])
    | (refine AW_ret ?_; simp [-List.getD_eq_getElem?_getD, -List.drop_one, ↓splitB_true, ↓splitB_false, go_sem, Try.results46])
    | (intro hx; change AW _ _ _ _ _ _)
    | (refine ⟨?_, ?_⟩ <;> change AW _ _ _ _ _ _)
    | (intro hx; refine ⟨fun hs => ?_, fun hs => ?_⟩)
    | (refine ⟨fun hs => ?_, fun hs => ?_⟩)
    | (refine ⟨?_, fun hs => ?_⟩; change AW _ _ _ _ _ _)
    | (refine ⟨fun hs => ?_, ?_⟩; rotate_left; change AW _ _ _ _ _ _; rotate_left)))
noncomputable def drawParseLasso_pureC : Con := .pure fun
  | [.list n_xs c_xs] => ((Is cY n_xs c_xs), .str (tX (de cY c_xs)))
  | _ => (False, .any)
attribute [go_sem] drawParseLasso_pureC
theorem drawParseLasso_pureC_ok : ConOk Try.prog 46 drawParseLasso_pureC := by
  refine ⟨callable Try.func46 (by decide) rfl, fun args h => ?_⟩
  revert h
  dsimp only
  split
  · intro h
    obtain ⟨xs, rfl, rfl⟩ := h
    try simp only [de_cat] at *
    exact ⟨drawParseLasso_pure xs, by simp [go_sem]⟩
  · intro h
    exact h.elim
noncomputable def Γp20 : FuncId → Con := ext Γp19 46 drawParseLasso_pureC
attribute [go_sem] Γp20
theorem Γp20_ok : ∀ g, ConOk Try.prog g (Γp20 g) := ext_ok Γp19_ok drawParseLasso_pureC_ok

/-- A printed lasso is read again. -/
theorem ip_fmt {a b : List Int} (h : LasOk a b) : IpOk (fmtL a b) ∧ iA (fmtL a b) = a ∧ iC (fmtL a b) = b := by
  have h1 := letOk_mem h.1
  have h2 := letOk_mem h.2.1
  have e := fmt_let h
  obtain ⟨c1, c2⟩ := cut_app (c := 40) (l := digs a) (r := digs b ++ [41]) (no40 h1)
  rw [← e] at c1 c2
  have n1 := nums_digs h1
  have n2 := nums_digs h2
  have eA : iA (fmtL a b) = a := by unfold iA; rw [c1, digN_let (by rw [n1]; exact h.1), n1]
  have eC : iC (fmtL a b) = b := by unfold iC; rw [c2, trim_app, digN_let (by rw [n2]; exact h.2.1), n2]
  exact ⟨⟨by rw [eA, eC]; exact h, by rw [eA, eC]⟩, eA, eC⟩
theorem ip_nil : B (IpOk []) = false := B_no fun h => by
  have := h.1.2.2.2.1
  have e : iC [] = [] := rfl
  rw [e] at this; simp at this
end Go.Proofs.Ytlbbhkpjjciaiaa.Vm

