/-
  Draws: pairs of states. No conditions.
-/
import Derived.Test.YtljncoikoffijaaE13
namespace Go.Proofs.Ytljncoikoffijaa.Vm
open Go
set_option linter.unusedVariables false
set_option linter.unusedSimpArgs false
set_option maxRecDepth 200000

theorem cut_len (xs : List UInt8) : (cut2000 xs).length ≤ 2000 := by simp [cut2000]; omega
noncomputable def DrawStateSame_enc : (List Int × List Int) × (List Int × List Int) → D := fun x => .tup [sP x.1, sP x.2]
attribute [go_sem] DrawStateSame_enc
noncomputable def DrawStateSame_enc0 : (List Int × List Int) × (List Int × List Int) → D := fun x => .tup [sP x.1, sP x.2]
attribute [go_sem] DrawStateSame_enc0
theorem DrawStateSame_dat (x : (List Int × List Int) × (List Int × List Int)) : dat (DrawStateSame_enc0 x) = DrawStateSame_enc x := by simp [go_sem]
def DrawStateSame_good (xs : List UInt8) : (List Int × List Int) × (List Int × List Int) → Prop := fun x => x.1.1.length ≤ 1002 ∧ x.1.2.length ≤ 1002 ∧ x.2.1.length ≤ 1002 ∧ x.2.2.length ≤ 1002
noncomputable def DrawStateSame_sel (xs : List UInt8) (c : Any) : (List Int × List Int) × (List Int × List Int) := sel (DrawStateSame_good xs) ((([], []), ([], []))) c
theorem DrawStateSame_ok (xs : List UInt8)  (c : Any) : DrawStateSame_good xs (DrawStateSame_sel xs c) := sel_ok (p := DrawStateSame_good xs) (x0 := (([], []), ([], []))) (by simp [DrawStateSame_good]) c
theorem DrawStateSame_ret (xs : List UInt8) {e_ : Exit} {S_ : St} (x : (List Int × List Int) × (List Int × List Int)) (he_ : e_ = .ret ∨ e_ = .normal)
    (h1 : (takeRes Try.prog S_ Try.f15.results.toList).1 ∧ resD (takeRes Try.prog S_ Try.f15.results.toList).2.1 = DrawStateSame_enc0 x) (hg : DrawStateSame_good xs x) :
    retR Try.prog Try.f15 (fun c => (DrawStateSame_enc0 (DrawStateSame_sel xs c), fun _ => none)) e_ S_ := ret_prel (enc := DrawStateSame_enc0) x he_ h1 hg
theorem DrawStateSame_retE (xs : List UInt8) {e_ : Exit} {S_ : St} (he_ : e_ = .ret ∨ e_ = .normal)
    (h : ∃ x, (takeRes Try.prog S_ Try.f15.results.toList).1 ∧ resD (takeRes Try.prog S_ Try.f15.results.toList).2.1 = DrawStateSame_enc0 x ∧ DrawStateSame_good xs x) :
    retR Try.prog Try.f15 (fun c => (DrawStateSame_enc0 (DrawStateSame_sel xs c), fun _ => none)) e_ S_ := by
  obtain ⟨x, h1, h2, h3⟩ := h
  exact DrawStateSame_ret _ x he_ ⟨h1, h2⟩ h3
set_option maxHeartbeats 4000000 in
theorem DrawStateSame_pure (xs : List UInt8)  : SpecR Try.prog 15 [li cY xs] (fun _ => none) (fun c => (DrawStateSame_enc0 (DrawStateSame_sel xs c), fun _ => none)) := by
  refine SpecR.of_walk Try.func15 rfl (by simp [Try.f15]) fun B => ?_
  have hl := cut_len xs
  all_goals (repeat' (first
    | refine AW_seq ?_
    | refine AW_region (id := 0) Γe27_ok [] (by kernel_rfl) ?_; simp  [-List.getD_eq_getElem?_getD, -List.drop_one, ↓splitB_true, ↓splitB_false, go_sem]
    | refine AW_region (id := 1) Γe27_ok [] (by kernel_rfl) ?_; simp  [-List.getD_eq_getElem?_getD, -List.drop_one, ↓splitB_true, ↓splitB_false, go_sem]; try (refine AW_matBox 4 rfl fun b hb => ?_; clear hb)
    | refine AW_region (id := 2) Γe27_ok [] (by kernel_rfl) ?_; simp  [-List.getD_eq_getElem?_getD, -List.drop_one, ↓splitB_true, ↓splitB_false, go_sem, hl]; try ((intro c2); (have z0 := l2System_ok 0 c2); (generalize l2System_sel 0 c2 = z at *); (obtain ⟨-, z1, z2⟩ := z0); (obtain ⟨⟨init, ps⟩, p1⟩ := z); (dsimp only at z1 z2); (refine AW_shut 5 ?_); (simp [go_sem]))
    | refine AW_region (id := 3) Γe27_ok [] (by kernel_rfl) ?_; simp  [-List.getD_eq_getElem?_getD, -List.drop_one, ↓splitB_true, ↓splitB_false, go_sem, hl, (show 0 ≤ p1 by omega), (show p1 ≤ 1000000 by omega), (show 0 ≤ p1 + 1 by omega), (show p1 + 1 ≤ 1000000 by omega), (show p1 + 10 ≤ 1000000 by omega)]; try ((intro c3); (have y0 := l3State_ok init ps p1 c3); (generalize l3State_sel init ps p1 c3 = y at *); (obtain ⟨y1, y2, y3⟩ := y0); (obtain ⟨⟨lo, va⟩, p2⟩ := y); (simp only [l3State_good] at y1 y2 y3); (refine AW_shut 6 ?_); (simp [go_sem]))
    | refine AW_region (id := 4) Γe27_ok [] (by kernel_rfl) ?_; simp  [-List.getD_eq_getElem?_getD, -List.drop_one, ↓splitB_true, ↓splitB_false, go_sem, hl, (show 0 ≤ p2 by omega), (show p2 ≤ 1000000 by omega), (show 0 ≤ p2 + 1 by omega), (show p2 + 1 ≤ 1000000 by omega)]
    | ((have u5 : ∀ c, (l3Mutate_sel lo va (p2 + 1) c).1.1.length ≤ 1001 ∧ (l3Mutate_sel lo va (p2 + 1) c).1.2.length ≤ 1001 ∧ p2 + 1 ≤ (l3Mutate_sel lo va (p2 + 1) c).2 ∧ (l3Mutate_sel lo va (p2 + 1) c).2 ≤ p2 + 1 + 3 := (fun c => by (have h := l3Mutate_ok lo va (by omega) (by omega) (p2 + 1) c); (simp only [l3Mutate_good] at h); omega)); (have u6 : ∀ c, (l3Mutate_sel lo va (p2 + 1) c).1.1.length ≤ 1000000 ∧ (l3Mutate_sel lo va (p2 + 1) c).1.2.length ≤ 1000000 ∧ 0 ≤ (l3Mutate_sel lo va (p2 + 1) c).2 ∧ (l3Mutate_sel lo va (p2 + 1) c).2 + 3 ≤ 1000000 := (fun c => by have h := u5 c; omega))); refine AW_region_snap (id := 5) Γe27_ok mixed [] [] [4, 6] (by kernel_rfl) (by kernel_rfl) (by simp [-List.getD_eq_getElem?_getD, -List.drop_one, ↓splitB_true, ↓splitB_false, go_sem, hl, (show 0 ≤ p2 + 1 by omega), (show p2 + 1 ≤ 1000000 by omega), (show 0 ≤ p2 + 1 + 1 by omega), (show p2 + 1 + 1 ≤ 1000000 by omega), (show p2 + 1 + 3 ≤ 1000000 by omega), (show lo.length ≤ 1000000 by omega), (show va.length ≤ 1000000 by omega), u6]) (by simp [-List.getD_eq_getElem?_getD, -List.drop_one, ↓splitB_true, ↓splitB_false, go_sem, hl, (show 0 ≤ p2 + 1 by omega), (show p2 + 1 ≤ 1000000 by omega), (show 0 ≤ p2 + 1 + 1 by omega), (show p2 + 1 + 1 ≤ 1000000 by omega), (show p2 + 1 + 3 ≤ 1000000 by omega), (show lo.length ≤ 1000000 by omega), (show va.length ≤ 1000000 by omega), u6]) ?_; simp  [-List.getD_eq_getElem?_getD, -List.drop_one, ↓splitB_true, ↓splitB_false, go_sem, hl, (show 0 ≤ p2 + 1 by omega), (show p2 + 1 ≤ 1000000 by omega), (show 0 ≤ p2 + 1 + 1 by omega), (show p2 + 1 + 1 ≤ 1000000 by omega), (show p2 + 1 + 3 ≤ 1000000 by omega), (show lo.length ≤ 1000000 by omega), (show va.length ≤ 1000000 by omega), u6]; try ((intro c5 c5'); (have h5 := u5 c5); (generalize l3Mutate_sel lo va (p2 + 1) c5 = w at *); (obtain ⟨⟨l5, v5⟩, p5⟩ := w); (dsimp only at h5); (have h6 := l3Mutate_ok l5 v5 (by omega) (by omega) p5 c5'); (generalize l3Mutate_sel l5 v5 p5 c5' = w' at *); (obtain ⟨⟨l6, v6⟩, p6⟩ := w'); (simp only [l3Mutate_good] at h6))
    | refine AW_region_snap (id := 6) Γe27_ok mixed [] [] [] (by kernel_rfl) (by kernel_rfl) (by simp [-List.getD_eq_getElem?_getD, -List.drop_one, ↓splitB_true, ↓splitB_false, go_sem, hl, (show 0 ≤ p2 + 1 by omega), (show p2 + 1 ≤ 1000000 by omega), (show 0 ≤ p2 + 1 + 1 by omega), (show p2 + 1 + 1 ≤ 1000000 by omega), (show p2 + 1 + 10 ≤ 1000000 by omega)]) (by simp [-List.getD_eq_getElem?_getD, -List.drop_one, ↓splitB_true, ↓splitB_false, go_sem, hl, (show 0 ≤ p2 + 1 by omega), (show p2 + 1 ≤ 1000000 by omega), (show 0 ≤ p2 + 1 + 1 by omega), (show p2 + 1 + 1 ≤ 1000000 by omega), (show p2 + 1 + 10 ≤ 1000000 by omega)]) ?_; simp  [-List.getD_eq_getElem?_getD, -List.drop_one, ↓splitB_true, ↓splitB_false, go_sem, hl, (show 0 ≤ p2 + 1 by omega), (show p2 + 1 ≤ 1000000 by omega), (show 0 ≤ p2 + 1 + 1 by omega), (show p2 + 1 + 1 ≤ 1000000 by omega), (show p2 + 1 + 10 ≤ 1000000 by omega)]; try ((intro c6); (have h6 := l3State_ok init ps (p2 + 1) c6); (generalize l3State_sel init ps (p2 + 1) c6 = w' at *); (obtain ⟨⟨l6, v6⟩, p6⟩ := w'); (simp only [l3State_good] at h6))
    | refine AW_condA (c := .tmp 16) ?_; simp [-List.getD_eq_getElem?_getD, -List.drop_one, ↓splitB_true, ↓splitB_false, go_sem]; try first | (refine ⟨?_, ?_⟩ <;> change AW _ _ _ _ _ _) | (refine ⟨fun c16 => ?_, fun c16 => ?_⟩ <;> (try simp [B_iff, B_not] at c16))
    | (refine AW_block ?_)
    | (refine AW_exit ?_; simp [-List.getD_eq_getElem?_getD, -List.drop_one, ↓splitB_true, ↓splitB_false, go_sem])
    | (refine AW_skip ?_; simp [-List.getD_eq_getElem?_getD, -List.drop_one, ↓splitB_true, ↓splitB_false, go_sem])
    | (refine AW_ret ?_; try simp [-List.getD_eq_getElem?_getD, -List.drop_one, ↓splitB_true, ↓splitB_false, go_sem, Try.results15])
    | (intro hx; change AW _ _ _ _ _ _)
    | (intro hx; change retR _ _ _ _ _)
    | (refine ⟨?_, ?_⟩ <;> change AW _ _ _ _ _ _)
    | (intro hx; refine ⟨fun hs => ?_, fun hs => ?_⟩)
    | (refine ⟨fun hs => ?_, fun hs => ?_⟩)
    | (refine ⟨?_, fun hs => ?_⟩; change AW _ _ _ _ _ _)
    | (refine ⟨fun hs => ?_, ?_⟩; rotate_left; change AW _ _ _ _ _ _; rotate_left)))
  all_goals (first
    | (refine DrawStateSame_ret _ (((lo, va), (l6, v6))) ?_ ?_ ?_; (first | exact Or.inl rfl | exact Or.inr rfl); (focus (simp [-List.getD_eq_getElem?_getD, -List.drop_one, ↓splitB_true, ↓splitB_false, go_sem, Try.results15]; done)); (focus (((simp only [DrawStateSame_good]; omega)); done)))
    | skip)
noncomputable def DrawStateSameC : Con := .rel fun args H => match args with
  | [.list n_xs c_xs] => ((Is cY n_xs c_xs), fun c => (DrawStateSame_enc (DrawStateSame_sel (de cY c_xs) c), H))
  | _ => (False, fun _ => (.any, H))
attribute [go_sem] DrawStateSameC
theorem DrawStateSameC_ok : ConOk Try.prog 15 DrawStateSameC := by
  refine ⟨callable Try.func15 (by decide) rfl, fun args H h => ?_⟩
  revert h
  dsimp only
  split
  · intro h
    obtain ⟨xs, rfl, rfl⟩ := h
    try simp only [de_cat] at *
    have h1_ := (SpecR.frame0 (DrawStateSame_pure xs ) (H := H)).shut
    simp only [DrawStateSame_dat] at h1_
    exact h1_
  · intro h
    exact h.elim
noncomputable def Γe28 : FuncId → Con := ext Γe27 15 DrawStateSameC
attribute [go_sem] Γe28
theorem Γe28_ok : ∀ g, ConOk Try.prog g (Γe28 g) := ext_ok Γe27_ok DrawStateSameC_ok
end Go.Proofs.Ytljncoikoffijaa.Vm

