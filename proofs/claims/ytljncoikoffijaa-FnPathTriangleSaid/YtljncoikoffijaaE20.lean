/-
  Draws: a graph and two numbers. No conditions.
-/
import Derived.Test.YtljncoikoffijaaE19
namespace Go.Proofs.Ytljncoikoffijaa.Vm
open Go
set_option linter.unusedVariables false
set_option linter.unusedSimpArgs false
set_option maxRecDepth 200000

theorem drawn_copy (p : Int) (c : Any) : CopyOk (l4Graph_sel p c).1.1 (l4Graph_sel p c).1.2 ∧ 1 ≤ (l4Graph_sel p c).1.1.length ∧ (l4Graph_sel p c).1.1.length ≤ (l4Graph_sel p c).1.2.length ∧ p ≤ (l4Graph_sel p c).2 ∧ (l4Graph_sel p c).2 ≤ p + 2100 := by
  have h := l4Graph_ok p c
  simp only [l4Graph_good] at h
  obtain ⟨⟨h1, h2, h3⟩, h4, h5⟩ := h
  exact ⟨h1.copy, h2, by omega, h4, h5⟩
theorem drawn_pos (c : Any) : 0 ≤ (l4Graph_sel 0 c).2 ∧ (l4Graph_sel 0 c).2 + 4 ≤ 1000000 := by
  obtain ⟨_, _, _, h4, h5⟩ := drawn_copy 0 c
  omega
set_option maxHeartbeats 4000000 in
noncomputable def DrawShortestPath_enc : (List Ints2 × List (List Int)) × Int × Int → D := fun x => .tup [sG x.1, .int .i64 x.2.1, .int .i64 x.2.2]
attribute [go_sem] DrawShortestPath_enc
noncomputable def DrawShortestPath_enc0 : (List Ints2 × List (List Int)) × Int × Int → D := fun x => .tup [sG x.1, .int .i64 x.2.1, .int .i64 x.2.2]
attribute [go_sem] DrawShortestPath_enc0
theorem DrawShortestPath_dat (x : (List Ints2 × List (List Int)) × Int × Int) : dat (DrawShortestPath_enc0 x) = DrawShortestPath_enc x := by simp [go_sem]
def DrawShortestPath_good (xs : List UInt8) : (List Ints2 × List (List Int)) × Int × Int → Prop := fun _ => True
noncomputable def DrawShortestPath_sel (xs : List UInt8) (c : Any) : (List Ints2 × List (List Int)) × Int × Int := sel (DrawShortestPath_good xs) ((([], []), 0, 0)) c
theorem DrawShortestPath_ok (xs : List UInt8)  (c : Any) : DrawShortestPath_good xs (DrawShortestPath_sel xs c) := sel_ok (p := DrawShortestPath_good xs) (x0 := (([], []), 0, 0)) (trivial) c
theorem DrawShortestPath_ret (xs : List UInt8) {e_ : Exit} {S_ : St} (x : (List Ints2 × List (List Int)) × Int × Int) (he_ : e_ = .ret ∨ e_ = .normal)
    (h1 : (takeRes Try.prog S_ Try.f56.results.toList).1 ∧ resD (takeRes Try.prog S_ Try.f56.results.toList).2.1 = DrawShortestPath_enc0 x) (hg : DrawShortestPath_good xs x) :
    retR Try.prog Try.f56 (fun c => (DrawShortestPath_enc0 (DrawShortestPath_sel xs c), fun _ => none)) e_ S_ := ret_prel (enc := DrawShortestPath_enc0) x he_ h1 hg
theorem DrawShortestPath_retE (xs : List UInt8) {e_ : Exit} {S_ : St} (he_ : e_ = .ret ∨ e_ = .normal)
    (h : ∃ x, (takeRes Try.prog S_ Try.f56.results.toList).1 ∧ resD (takeRes Try.prog S_ Try.f56.results.toList).2.1 = DrawShortestPath_enc0 x ∧ DrawShortestPath_good xs x) :
    retR Try.prog Try.f56 (fun c => (DrawShortestPath_enc0 (DrawShortestPath_sel xs c), fun _ => none)) e_ S_ := by
  obtain ⟨x, h1, h2, h3⟩ := h
  exact DrawShortestPath_ret _ x he_ ⟨h1, h2⟩ h3
set_option maxHeartbeats 4000000 in
theorem DrawShortestPath_pure (xs : List UInt8)  : SpecR Try.prog 56 [li cY xs] (fun _ => none) (fun c => (DrawShortestPath_enc0 (DrawShortestPath_sel xs c), fun _ => none)) := by
  refine SpecR.of_walk Try.func56 rfl (by simp [Try.f56]) fun B => ?_
  have hl := cut_len xs
  all_goals (repeat' (first
    | refine AW_seq ?_
    | refine AW_region (id := 0) Γe35_ok [] (by kernel_rfl) ?_; simp  [-List.getD_eq_getElem?_getD, -List.drop_one, ↓splitB_true, ↓splitB_false, go_sem]
    | refine AW_region (id := 1) Γe35_ok [] (by kernel_rfl) ?_; simp  [-List.getD_eq_getElem?_getD, -List.drop_one, ↓splitB_true, ↓splitB_false, go_sem]; try (refine AW_matBox 5 rfl fun b hb => ?_; clear hb)
    | ((have u1 := drawn_copy 0); (have u2 := drawn_pos); (have u3 : ∀ c, CopyOk (l4Graph_sel 0 c).1.1 (l4Graph_sel 0 c).1.2 := fun c => (u1 c).1); (have u4 : ∀ c, 1 ≤ (l4Graph_sel 0 c).1.1.length := fun c => (u1 c).2.1); (have u5 : ∀ c, (l4Graph_sel 0 c).1.1.length ≤ (l4Graph_sel 0 c).1.2.length := fun c => (u1 c).2.2.1)); refine AW_region (id := 2) Γe35_ok [] (by kernel_rfl) ?_; simp  [-List.getD_eq_getElem?_getD, -List.drop_one, ↓splitB_true, ↓splitB_false, go_sem, hl, u2, u3, u4, u5]; try ((intro c2 c2'); (have z0 := u1 c2); (generalize l4Graph_sel 0 c2 = z at *); (obtain ⟨⟨ga, gb⟩, p1⟩ := z); (obtain ⟨z1, z2, z3, z4, z5⟩ := z0); (try dsimp only at z1 z2 z3 z4 z5); (have y0 := l4Mutate_ok ga gb z1 z2 z3 p1 c2'); (generalize l4Mutate_sel ga gb p1 c2' = y at *); (obtain ⟨⟨ma, mb⟩, p2⟩ := y); (simp only [l4Mutate_good] at y0); (obtain ⟨y1, y2, y3⟩ := y0); (try dsimp only at y2 y3); (refine AW_shut 6 ?_); (simp [go_sem]))
    | refine AW_region_snap (id := 3) Γe35_ok mixed [] [] [5] (by kernel_rfl) (by kernel_rfl) (by simp [-List.getD_eq_getElem?_getD, -List.drop_one, ↓splitB_true, ↓splitB_false, go_sem, hl, (show 0 ≤ p2 by omega), (show p2 ≤ 1000000 by omega), (show 0 ≤ p2 + 1 by omega), (show p2 + 1 ≤ 1000000 by omega), (show 0 ≤ p2 + 1 + 1 by omega), (show p2 + 1 + 1 ≤ 1000000 by omega)]) (by simp [-List.getD_eq_getElem?_getD, -List.drop_one, ↓splitB_true, ↓splitB_false, go_sem, hl, (show 0 ≤ p2 by omega), (show p2 ≤ 1000000 by omega), (show 0 ≤ p2 + 1 by omega), (show p2 + 1 ≤ 1000000 by omega), (show 0 ≤ p2 + 1 + 1 by omega), (show p2 + 1 + 1 ≤ 1000000 by omega)]) ?_; simp  [-List.getD_eq_getElem?_getD, -List.drop_one, ↓splitB_true, ↓splitB_false, go_sem, hl, (show 0 ≤ p2 by omega), (show p2 ≤ 1000000 by omega), (show 0 ≤ p2 + 1 by omega), (show p2 + 1 ≤ 1000000 by omega), (show 0 ≤ p2 + 1 + 1 by omega), (show p2 + 1 + 1 ≤ 1000000 by omega)]; try ((generalize numI (cut2000 xs) p2 [0, 0, 1, 2, -1] = uu at *); (generalize numI (cut2000 xs) (p2 + 1) [1, 2, 3, 0, 5, 60, -1] = vv at *))
    | (refine AW_block ?_)
    | (refine AW_exit ?_; simp [-List.getD_eq_getElem?_getD, -List.drop_one, ↓splitB_true, ↓splitB_false, go_sem])
    | (refine AW_skip ?_; simp [-List.getD_eq_getElem?_getD, -List.drop_one, ↓splitB_true, ↓splitB_false, go_sem])
    | (refine AW_ret ?_; try simp [-List.getD_eq_getElem?_getD, -List.drop_one, ↓splitB_true, ↓splitB_false, go_sem, Try.results56])
    | (intro hx; change AW _ _ _ _ _ _)
    | (intro hx; change retR _ _ _ _ _)
    | (refine ⟨?_, ?_⟩ <;> change AW _ _ _ _ _ _)
    | (intro hx; refine ⟨fun hs => ?_, fun hs => ?_⟩)
    | (refine ⟨fun hs => ?_, fun hs => ?_⟩)
    | (refine ⟨?_, fun hs => ?_⟩; change AW _ _ _ _ _ _)
    | (refine ⟨fun hs => ?_, ?_⟩; rotate_left; change AW _ _ _ _ _ _; rotate_left)))
  all_goals (first
    | (refine DrawShortestPath_ret _ (((ma, mb), uu, vv)) ?_ ?_ ?_; (first | exact Or.inl rfl | exact Or.inr rfl); (focus (simp [-List.getD_eq_getElem?_getD, -List.drop_one, ↓splitB_true, ↓splitB_false, go_sem, Try.results56, dat, datL_map, li, cat_flat2]; done)); (focus ((trivial); done)))
    | skip)
noncomputable def DrawShortestPathC : Con := .rel fun args H => match args with
  | [.list n_xs c_xs] => ((Is cY n_xs c_xs), fun c => (DrawShortestPath_enc (DrawShortestPath_sel (de cY c_xs) c), H))
  | _ => (False, fun _ => (.any, H))
attribute [go_sem] DrawShortestPathC
theorem DrawShortestPathC_ok : ConOk Try.prog 56 DrawShortestPathC := by
  refine ⟨callable Try.func56 (by decide) rfl, fun args H h => ?_⟩
  revert h
  dsimp only
  split
  · intro h
    obtain ⟨xs, rfl, rfl⟩ := h
    try simp only [de_cat] at *
    have h1_ := (SpecR.frame0 (DrawShortestPath_pure xs ) (H := H)).shut
    simp only [DrawShortestPath_dat] at h1_
    exact h1_
  · intro h
    exact h.elim
noncomputable def Γe36 : FuncId → Con := ext Γe35 56 DrawShortestPathC
attribute [go_sem] Γe36
theorem Γe36_ok : ∀ g, ConOk Try.prog g (Γe36 g) := ext_ok Γe35_ok DrawShortestPathC_ok
theorem Pure.nilfr {P : Program} {f : FuncId} {args : List D} {xs : List Int} (h : Pure P f args (if xs = [] then .nil else fr 1 cI xs)) : Pure P f args (fr 1 cI xs) := by
  by_cases e : xs = []
  · subst e
    intro μ w vs hr
    refine (h μ w vs hr).mono fun ex w' hq => ?_
    obtain ⟨v, fl, h1, h2, h3⟩ := hq
    rw [if_pos rfl] at h2
    exact ⟨v, fl, h1, rep_nilfrN h2, h3⟩
  · rw [if_neg e] at h; exact h
theorem implSpF (a : List Ints2) (b : List (List Int)) (x y : Int) : Pure Try.prog 26 [.st [li cP a, li cL b], .int .i64 x, .int .i64 y] (fr 1 cI (spL a b x y)) := (implSp_pure a b x y).nilfr
noncomputable def implSpFC : Con := .pure fun
  | [.st [.list n_a c_a, .list n_b c_b], .int .i64 x, .int .i64 y] => ((Is cP n_a c_a) ∧ (Is cL n_b c_b), fr 1 cI (spL (de cP c_a) (de cL c_b) x y))
  | _ => (False, .any)
attribute [go_sem] implSpFC
theorem implSpFC_ok : ConOk Try.prog 26 implSpFC := by
  refine ⟨callable Try.func26 (by decide) rfl, fun args h => ?_⟩
  revert h
  dsimp only
  split
  · intro h
    obtain ⟨⟨a, rfl, rfl⟩, ⟨b, rfl, rfl⟩⟩ := h
    try simp only [de_cat] at *
    exact ⟨implSpF a b _ _, by simp [go_sem]⟩
  · intro h
    exact h.elim
noncomputable def Γe36f : FuncId → Con := ext Γe36 26 implSpFC
attribute [go_sem] Γe36f
theorem Γe36f_ok : ∀ g, ConOk Try.prog g (Γe36f g) := ext_ok Γe36_ok implSpFC_ok

end Go.Proofs.Ytljncoikoffijaa.Vm

