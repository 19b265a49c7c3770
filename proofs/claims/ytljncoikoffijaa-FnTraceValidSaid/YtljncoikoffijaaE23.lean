/-
  Draws: a graph and a trace of it. No conditions.
-/
import Derived.Test.YtljncoikoffijaaE22
namespace Go.Proofs.Ytljncoikoffijaa.Vm
open Go
set_option linter.unusedVariables false
set_option linter.unusedSimpArgs false
set_option maxRecDepth 200000

set_option maxHeartbeats 4000000 in
noncomputable def DrawTraceValid_enc : (List Ints2 × List (List Int)) × (List Int × List Int) → D := fun x => .tup [sG x.1, sP x.2]
attribute [go_sem] DrawTraceValid_enc
noncomputable def DrawTraceValid_enc0 : (List Ints2 × List (List Int)) × (List Int × List Int) → D := fun x => .tup [sG x.1, sP x.2]
attribute [go_sem] DrawTraceValid_enc0
theorem DrawTraceValid_dat (x : (List Ints2 × List (List Int)) × (List Int × List Int)) : dat (DrawTraceValid_enc0 x) = DrawTraceValid_enc x := by simp [go_sem]
def DrawTraceValid_good (xs : List UInt8) : (List Ints2 × List (List Int)) × (List Int × List Int) → Prop := fun x => x.2.1.length ≤ 71 ∧ x.2.2.length ≤ 71
noncomputable def DrawTraceValid_sel (xs : List UInt8) (c : Any) : (List Ints2 × List (List Int)) × (List Int × List Int) := sel (DrawTraceValid_good xs) ((([], []), ([], []))) c
theorem DrawTraceValid_ok (xs : List UInt8)  (c : Any) : DrawTraceValid_good xs (DrawTraceValid_sel xs c) := sel_ok (p := DrawTraceValid_good xs) (x0 := (([], []), ([], []))) (by simp [DrawTraceValid_good]) c
theorem DrawTraceValid_ret (xs : List UInt8) {e_ : Exit} {S_ : St} (x : (List Ints2 × List (List Int)) × (List Int × List Int)) (he_ : e_ = .ret ∨ e_ = .normal)
    (h1 : (takeRes Try.prog S_ Try.f27.results.toList).1 ∧ resD (takeRes Try.prog S_ Try.f27.results.toList).2.1 = DrawTraceValid_enc0 x) (hg : DrawTraceValid_good xs x) :
    retR Try.prog Try.f27 (fun c => (DrawTraceValid_enc0 (DrawTraceValid_sel xs c), fun _ => none)) e_ S_ := ret_prel (enc := DrawTraceValid_enc0) x he_ h1 hg
theorem DrawTraceValid_retE (xs : List UInt8) {e_ : Exit} {S_ : St} (he_ : e_ = .ret ∨ e_ = .normal)
    (h : ∃ x, (takeRes Try.prog S_ Try.f27.results.toList).1 ∧ resD (takeRes Try.prog S_ Try.f27.results.toList).2.1 = DrawTraceValid_enc0 x ∧ DrawTraceValid_good xs x) :
    retR Try.prog Try.f27 (fun c => (DrawTraceValid_enc0 (DrawTraceValid_sel xs c), fun _ => none)) e_ S_ := by
  obtain ⟨x, h1, h2, h3⟩ := h
  exact DrawTraceValid_ret _ x he_ ⟨h1, h2⟩ h3
set_option maxHeartbeats 4000000 in
theorem DrawTraceValid_pure (xs : List UInt8)  : SpecR Try.prog 27 [li cY xs] (fun _ => none) (fun c => (DrawTraceValid_enc0 (DrawTraceValid_sel xs c), fun _ => none)) := by
  refine SpecR.of_walk Try.func27 rfl (by simp [Try.f27]) fun B => ?_
  have hl := cut_len xs
  all_goals (repeat' (first
    | refine AW_seq ?_
    | refine AW_region (id := 0) Γe39_ok [] (by kernel_rfl) ?_; simp  [-List.getD_eq_getElem?_getD, -List.drop_one, ↓splitB_true, ↓splitB_false, go_sem]
    | refine AW_region (id := 1) Γe39_ok [] (by kernel_rfl) ?_; simp  [-List.getD_eq_getElem?_getD, -List.drop_one, ↓splitB_true, ↓splitB_false, go_sem]; try (refine AW_matBox 4 rfl fun b hb => ?_; clear hb)
    | ((have u1 := drawn_copy 0); (have u2 := drawn_pos); (have u3 : ∀ c, CopyOk (l4Graph_sel 0 c).1.1 (l4Graph_sel 0 c).1.2 := fun c => (u1 c).1); (have u4 : ∀ c, 1 ≤ (l4Graph_sel 0 c).1.1.length := fun c => (u1 c).2.1); (have u5 : ∀ c, (l4Graph_sel 0 c).1.1.length ≤ (l4Graph_sel 0 c).1.2.length := fun c => (u1 c).2.2.1)); refine AW_region (id := 2) Γe39_ok [] (by kernel_rfl) ?_; simp  [-List.getD_eq_getElem?_getD, -List.drop_one, ↓splitB_true, ↓splitB_false, go_sem, hl, u2, u3, u4, u5]; try ((intro c2 c2'); (have z0 := u1 c2); (generalize l4Graph_sel 0 c2 = z at *); (obtain ⟨⟨ga, gb⟩, p1⟩ := z); (obtain ⟨z1, z2, z3, z4, z5⟩ := z0); (try dsimp only at z1 z2 z3 z4 z5); (have y0 := l4Mutate_ok ga gb z1 z2 z3 p1 c2'); (generalize l4Mutate_sel ga gb p1 c2' = y at *); (obtain ⟨⟨ma, mb⟩, p2⟩ := y); (simp only [l4Mutate_good] at y0); (obtain ⟨y1, y2, y3⟩ := y0); (try dsimp only at y2 y3); (refine AW_shut 5 ?_); (simp [go_sem]))
    | refine AW_region_snap (id := 3) Γe39_ok mixed [] [] [5] (by kernel_rfl) (by kernel_rfl) (by simp [-List.getD_eq_getElem?_getD, -List.drop_one, ↓splitB_true, ↓splitB_false, go_sem, hl, (show 0 ≤ p2 by omega), (show p2 ≤ 1000000 by omega), (show 0 ≤ p2 + 1 by omega), (show p2 + 1 ≤ 1000000 by omega), (show p2 + 6000 ≤ 1000000 by omega)]) (by simp [-List.getD_eq_getElem?_getD, -List.drop_one, ↓splitB_true, ↓splitB_false, go_sem, hl, (show 0 ≤ p2 by omega), (show p2 ≤ 1000000 by omega), (show 0 ≤ p2 + 1 by omega), (show p2 + 1 ≤ 1000000 by omega), (show p2 + 6000 ≤ 1000000 by omega)]) ?_; simp  [-List.getD_eq_getElem?_getD, -List.drop_one, ↓splitB_true, ↓splitB_false, go_sem, hl, (show 0 ≤ p2 by omega), (show p2 ≤ 1000000 by omega), (show 0 ≤ p2 + 1 by omega), (show p2 + 1 ≤ 1000000 by omega), (show p2 + 6000 ≤ 1000000 by omega)]; try ((intro c3); (have x0 := l8Trace_ok ma mb p2 c3); (generalize l8Trace_sel ma mb p2 c3 = x at *); (obtain ⟨⟨s, l⟩, p3⟩ := x); (simp only [l8Trace_good] at x0); (obtain ⟨x1, x2, x3⟩ := x0); (try dsimp only at x1))
    | (refine AW_block ?_)
    | (refine AW_exit ?_; simp [-List.getD_eq_getElem?_getD, -List.drop_one, ↓splitB_true, ↓splitB_false, go_sem])
    | (refine AW_skip ?_; simp [-List.getD_eq_getElem?_getD, -List.drop_one, ↓splitB_true, ↓splitB_false, go_sem])
    | (refine AW_ret ?_; try simp [-List.getD_eq_getElem?_getD, -List.drop_one, ↓splitB_true, ↓splitB_false, go_sem, Try.results27])
    | (intro hx; change AW _ _ _ _ _ _)
    | (intro hx; change retR _ _ _ _ _)
    | (refine ⟨?_, ?_⟩ <;> change AW _ _ _ _ _ _)
    | (intro hx; refine ⟨fun hs => ?_, fun hs => ?_⟩)
    | (refine ⟨fun hs => ?_, fun hs => ?_⟩)
    | (refine ⟨?_, fun hs => ?_⟩; change AW _ _ _ _ _ _)
    | (refine ⟨fun hs => ?_, ?_⟩; rotate_left; change AW _ _ _ _ _ _; rotate_left)))
  all_goals (first
    | (refine DrawTraceValid_ret _ (((ma, mb), (s, l))) ?_ ?_ ?_; (first | exact Or.inl rfl | exact Or.inr rfl); (focus (simp [-List.getD_eq_getElem?_getD, -List.drop_one, ↓splitB_true, ↓splitB_false, go_sem, Try.results27, dat, datL_map, li, cat_flat2]; done)); (focus ((exact x1); done)))
    | skip)
noncomputable def DrawTraceValidC : Con := .rel fun args H => match args with
  | [.list n_xs c_xs] => ((Is cY n_xs c_xs), fun c => (DrawTraceValid_enc (DrawTraceValid_sel (de cY c_xs) c), H))
  | _ => (False, fun _ => (.any, H))
attribute [go_sem] DrawTraceValidC
theorem DrawTraceValidC_ok : ConOk Try.prog 27 DrawTraceValidC := by
  refine ⟨callable Try.func27 (by decide) rfl, fun args H h => ?_⟩
  revert h
  dsimp only
  split
  · intro h
    obtain ⟨xs, rfl, rfl⟩ := h
    try simp only [de_cat] at *
    have h1_ := (SpecR.frame0 (DrawTraceValid_pure xs ) (H := H)).shut
    simp only [DrawTraceValid_dat] at h1_
    exact h1_
  · intro h
    exact h.elim
noncomputable def Γe40 : FuncId → Con := ext Γe39 27 DrawTraceValidC
attribute [go_sem] Γe40
theorem Γe40_ok : ∀ g, ConOk Try.prog g (Γe40 g) := ext_ok Γe39_ok DrawTraceValidC_ok
end Go.Proofs.Ytljncoikoffijaa.Vm

