/-
  Marks of rows of lists, of rows of states, of graphs: contracts. No conditions.
-/
import Derived.Test.YtljncoikoffijaaG5
namespace Go.Proofs.Ytljncoikoffijaa.Vm
open Go
set_option linter.unusedVariables false
set_option linter.unusedSimpArgs false
set_option maxRecDepth 200000

section
variable {α : Type} {f g : α → List D} {lv sz : Nat}
theorem catO_inj [Own f g lv] [Wide g sz] [Plain g] {xs ys : List α} (h : cat f xs = cat f ys) : xs = ys := by
  have h1 := congrArg (List.map dat) h
  rw [cat_dat (f := f) (g := g), cat_dat (f := f) (g := g)] at h1
  exact cat_inj h1
theorem isO_cat [Own f g lv] [Wide g sz] [Plain g] (n : Nat) (xs : List α) : Is f n (cat f xs) ↔ n = xs.length :=
  ⟨fun ⟨ys, h, e⟩ => by rw [catO_inj (f := f) (g := g) e, h], fun h => ⟨xs, h, rfl⟩⟩
theorem deO_cat [Own f g lv] [Wide g sz] [Plain g] (xs : List α) : de f (cat f xs) = xs := by
  unfold de
  rw [dif_pos ⟨xs, rfl⟩]
  have : ∃ ys : List α, cat f xs = cat f ys := ⟨xs, rfl⟩
  exact (catO_inj (f := f) (g := g) (Classical.choose_spec this)).symm
theorem cat_drop_app [Wide f sz] (xs : List α) (ys : List D) : (cat f xs ++ ys).drop (xs.length * sz) = ys := by
  rw [← cat_length (f := f), List.drop_left']; rfl
end
@[go_sem] theorem isO_oL (n : Nat) (xs : List (List Int)) : Is oL n (cat oL xs) ↔ n = xs.length := isO_cat n xs
@[go_sem] theorem isO_oP (n : Nat) (xs : List Ints2) : Is oP n (cat oP xs) ↔ n = xs.length := isO_cat n xs
@[go_sem] theorem deO_oL (xs : List (List Int)) : de oL (cat oL xs) = xs := deO_cat xs
@[go_sem] theorem deO_oP (xs : List Ints2) : de oP (cat oP xs) = xs := deO_cat xs
@[go_sem] theorem cat_drop_app_oP (xs : List Ints2) (ys : List D) : (cat oP xs ++ ys).drop (xs.length * 2) = ys := cat_drop_app xs ys
@[go_sem] theorem cat_take_app_oP (xs : List Ints2) (ys : List D) : (cat oP xs ++ ys).take (xs.length * 2) = cat oP xs := cat_take_app xs ys

noncomputable def markLLC : Con := .gen fun args H => match args with
  | [.sl b 1 0 n _, .int .i64 k] => match H b with
    | some all => (n ≤ 1048576 ∧ n ≤ all.length ∧ Is oL n (all.take n) ∧ 0 ≤ k ∧ k + msum mL (de oL (all.take n)) n ≤ 1099511627776, .int .i64 (k + msum mL (de oL (all.take n)) n), upd H b (some (cat oL (mkLL k (de oL (all.take n))) ++ all.drop n)))
    | none => (False, .any, H)
  | _ => (False, .any, H)
attribute [go_sem] markLLC
theorem markLLC_ok : ConOk Try.prog 103 markLLC := by
  refine ⟨callable Try.func103 (by decide) rfl, fun args H h => ?_⟩
  revert h
  dsimp only
  split
  · rename_i b n cp k
    split
    · rename_i all hH
      rintro ⟨g0, g1, ⟨xs, hn, he⟩, g2, g3⟩
      subst hn
      have e : all = cat oL xs ++ all.drop xs.length := by rw [← he, List.take_append_drop]
      rw [he, deO_oL] at *
      rw [e] at hH
      exact markLL_spec xs k b cp _ H hH g2 g3 g0
    · intro h; exact h.elim
  · intro h
    exact h.elim
noncomputable def Γg11 : FuncId → Con := ext Γg10 103 markLLC
attribute [go_sem] Γg11
theorem Γg11_ok : ∀ g, ConOk Try.prog g (Γg11 g) := ext_ok Γg10_ok markLLC_ok

noncomputable def markPPC : Con := .gen fun args H => match args with
  | [.sl b 2 0 n _, .int .i64 k] => match H b with
    | some all => (n ≤ 1048576 ∧ n * 2 ≤ all.length ∧ Is oP n (all.take (n * 2)) ∧ 0 ≤ k ∧ k + msum mP (de oP (all.take (n * 2))) n ≤ 1099511627776, .int .i64 (k + msum mP (de oP (all.take (n * 2))) n), upd H b (some (cat oP (mkPP k (de oP (all.take (n * 2)))) ++ all.drop (n * 2))))
    | none => (False, .any, H)
  | _ => (False, .any, H)
attribute [go_sem] markPPC
theorem markPPC_ok : ConOk Try.prog 102 markPPC := by
  refine ⟨callable Try.func102 (by decide) rfl, fun args H h => ?_⟩
  revert h
  dsimp only
  split
  · rename_i b n cp k
    split
    · rename_i all hH
      rintro ⟨g0, g1, ⟨xs, hn, he⟩, g2, g3⟩
      subst hn
      have e : all = cat oP xs ++ all.drop (xs.length * 2) := by rw [← he, List.take_append_drop]
      rw [he, deO_oP] at *
      rw [e] at hH
      exact markPP_spec xs k b cp _ H hH g2 g3 g0
    · intro h; exact h.elim
  · intro h
    exact h.elim
noncomputable def Γg12 : FuncId → Con := ext Γg11 102 markPPC
attribute [go_sem] Γg12
theorem Γg12_ok : ∀ g, ConOk Try.prog g (Γg12 g) := ext_ok Γg11_ok markPPC_ok

set_option maxHeartbeats 1000000 in
theorem markG_spec (a : List Ints2) (b : List (List Int)) (k : Int) (b1 b2 c1 c2 : Nat) (j1 j2 : List D) (H : Hp) (h1 : H b1 = some (cat oP a ++ j1)) (h2 : H b2 = some (cat oL b ++ j2)) (hne : ¬ b1 = b2) (ha : a.length ≤ 1048576) (hb : b.length ≤ 1048576) (h0 : 0 ≤ k) (hk : k + msum mP a a.length + msum mL b b.length ≤ 1099511627776) :
    Spec Try.prog 40 [.st [.sl b1 2 0 a.length c1, .sl b2 1 0 b.length c2], .int .i64 k] H (.int .i64 (k + msum mP a a.length + msum mL b b.length)) (upd (upd H b1 (some (cat oP (mkPP k a) ++ j1))) b2 (some (cat oL (mkLL (k + msum mP a a.length) b) ++ j2))) := by
  refine Spec.of_walk Try.func40 rfl (by simp [Try.f40]) fun B => ?_
  (repeat' (first
    | refine AW_seq ?_
    | refine AW_region (id := 0) Γg12_ok [] (by kernel_rfl) ?_; simp  [-List.getD_eq_getElem?_getD, -List.drop_one, ↓splitB_true, ↓splitB_false, go_sem]; try (refine AW_matBox 2 rfl fun b0 hb0 => ?_; have n1 : ¬ b1 = b0 := (by rintro rfl; dsimp only at hb0; rw [h1] at hb0; cases hb0); have n2 : ¬ b2 = b0 := (by rintro rfl; dsimp only at hb0; rw [h2] at hb0; cases hb0))
    | refine AW_region (id := 1) Γg12_ok [] (by kernel_rfl) ?_; simp  [-List.getD_eq_getElem?_getD, -List.drop_one, ↓splitB_true, ↓splitB_false, go_sem, n1, h1, h0, ha, (show k + (msum mP a a.length : Int) ≤ 1099511627776 by omega), (show a.length * 2 ≤ a.length * 2 + j1.length by omega)]
    | refine AW_region (id := 2) Γg12_ok [] (by kernel_rfl) ?_; simp  [-List.getD_eq_getElem?_getD, -List.drop_one, ↓splitB_true, ↓splitB_false, go_sem, n1, n2, Ne.symm n1, Ne.symm n2, hne, Ne.symm hne, h2, hb, (show 0 ≤ k + (msum mP a a.length : Int) by omega), hk, (show b.length ≤ b.length + j2.length by omega)]
    | refine AW_region (id := 3) Γg12_ok [] (by kernel_rfl) ?_; simp  [-List.getD_eq_getElem?_getD, -List.drop_one, ↓splitB_true, ↓splitB_false, go_sem]
    | (refine AW_block ?_)
    | (refine AW_exit ?_; simp [-List.getD_eq_getElem?_getD, -List.drop_one, ↓splitB_true, ↓splitB_false, go_sem])
    | (refine AW_skip ?_; simp [-List.getD_eq_getElem?_getD, -List.drop_one, ↓splitB_true, ↓splitB_false, go_sem])
    | (refine AW_ret ?_; simp [-List.getD_eq_getElem?_getD, -List.drop_one, ↓splitB_true, ↓splitB_false, go_sem, Try.results40])
    | (intro hx; change AW _ _ _ _ _ _)
    | (refine ⟨?_, ?_⟩ <;> change AW _ _ _ _ _ _)
    | (intro hx; refine ⟨fun hs => ?_, fun hs => ?_⟩)
    | (refine ⟨fun hs => ?_, fun hs => ?_⟩)
    | (refine ⟨?_, fun hs => ?_⟩; change AW _ _ _ _ _ _)
    | (refine ⟨fun hs => ?_, ?_⟩; rotate_left; change AW _ _ _ _ _ _; rotate_left)))
  all_goals (first
    | (intro b' cs' h; dsimp only at hb0; by_cases e2 : b' = b2 <;> by_cases e1 : b' = b1 <;> by_cases e0 : b' = b0 <;> simp_all)
    | skip)
noncomputable def markGC : Con := .gen fun args H => match args with
  | [.st [.sl b1 2 0 n _, .sl b2 1 0 m _], .int .i64 k] => match H b1, H b2 with
    | some a1, some a2 => (¬ b1 = b2 ∧ n ≤ 1048576 ∧ m ≤ 1048576 ∧ n * 2 ≤ a1.length ∧ m ≤ a2.length ∧ Is oP n (a1.take (n * 2)) ∧ Is oL m (a2.take m) ∧ 0 ≤ k ∧ k + msum mP (de oP (a1.take (n * 2))) n + msum mL (de oL (a2.take m)) m ≤ 1099511627776,
        .int .i64 (k + msum mP (de oP (a1.take (n * 2))) n + msum mL (de oL (a2.take m)) m),
        upd (upd H b1 (some (cat oP (mkPP k (de oP (a1.take (n * 2)))) ++ a1.drop (n * 2)))) b2 (some (cat oL (mkLL (k + msum mP (de oP (a1.take (n * 2))) n) (de oL (a2.take m))) ++ a2.drop m)))
    | _, _ => (False, .any, H)
  | _ => (False, .any, H)
attribute [go_sem] markGC
theorem markGC_ok : ConOk Try.prog 40 markGC := by
  refine ⟨callable Try.func40 (by decide) rfl, fun args H h => ?_⟩
  revert h
  dsimp only
  split
  · rename_i b1 n c1 b2 m c2 k
    split
    · rename_i a1 a2 hH1 hH2
      rintro ⟨g0, ga, gb, g1, g2, ⟨xs, hn, he⟩, ⟨ys, hm, hf⟩, g5, g6⟩
      subst hn hm
      have e1 : a1 = cat oP xs ++ a1.drop (xs.length * 2) := by rw [← he, List.take_append_drop]
      have e2 : a2 = cat oL ys ++ a2.drop ys.length := by rw [← hf, List.take_append_drop]
      rw [he, hf, deO_oP, deO_oL] at *
      rw [e1] at hH1
      rw [e2] at hH2
      exact markG_spec xs ys k b1 b2 c1 c2 _ _ H hH1 hH2 g0 ga gb g5 g6
    · intro h; exact h.elim
  · intro h
    exact h.elim
noncomputable def Γg13 : FuncId → Con := ext Γg12 40 markGC
attribute [go_sem] Γg13
theorem Γg13_ok : ∀ g, ConOk Try.prog g (Γg13 g) := ext_ok Γg12_ok markGC_ok
end Go.Proofs.Ytljncoikoffijaa.Vm

