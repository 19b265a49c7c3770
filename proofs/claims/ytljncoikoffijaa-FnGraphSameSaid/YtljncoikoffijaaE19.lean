/-
  Draws: pairs of graphs. No conditions.
-/
import Derived.Test.YtljncoikoffijaaE18
namespace Go.Proofs.Ytljncoikoffijaa.Vm
open Go
set_option linter.unusedVariables false
set_option linter.unusedSimpArgs false
set_option maxRecDepth 200000

theorem SmallG.copy {x : List Ints2 × List (List Int)} (h : SmallG x) : CopyOk x.1 x.2 := ⟨by have := h.1; omega, by have := h.2.1; omega, fun s hs => by have := h.2.2.1 s hs; omega, fun l hl => by have := h.2.2.2 l hl; omega⟩
theorem Mut.copy {a : List Ints2} {bb : List (List Int)} {x : List Ints2 × List (List Int)} (h : Mut a bb x) (hs : SmallG (a, bb)) : CopyOk x.1 x.2 :=
  ⟨by have := h.2.1; have := hs.1; dsimp only at *; omega, by have := h.2.2.1; have := hs.2.1; dsimp only at *; omega,
   h.2.2.2.1 100000 (by omega) (SmallG.copy hs).2.2.1, h.2.2.2.2 99999 (by omega) fun l hl => by have := hs.2.2.2 l hl; omega⟩
set_option maxHeartbeats 4000000 in
noncomputable def DrawGraphSame_enc : (List Ints2 × List (List Int)) × (List Ints2 × List (List Int)) → D := fun x => .tup [sG x.1, sG x.2]
attribute [go_sem] DrawGraphSame_enc
noncomputable def DrawGraphSame_enc0 : (List Ints2 × List (List Int)) × (List Ints2 × List (List Int)) → D := fun x => .tup [sG x.1, sG x.2]
attribute [go_sem] DrawGraphSame_enc0
theorem DrawGraphSame_dat (x : (List Ints2 × List (List Int)) × (List Ints2 × List (List Int))) : dat (DrawGraphSame_enc0 x) = DrawGraphSame_enc x := by simp [go_sem]
def DrawGraphSame_good (xs : List UInt8) : (List Ints2 × List (List Int)) × (List Ints2 × List (List Int)) → Prop := fun _ => True
noncomputable def DrawGraphSame_sel (xs : List UInt8) (c : Any) : (List Ints2 × List (List Int)) × (List Ints2 × List (List Int)) := sel (DrawGraphSame_good xs) ((([], []), ([], []))) c
theorem DrawGraphSame_ok (xs : List UInt8)  (c : Any) : DrawGraphSame_good xs (DrawGraphSame_sel xs c) := sel_ok (p := DrawGraphSame_good xs) (x0 := (([], []), ([], []))) (trivial) c
theorem DrawGraphSame_ret (xs : List UInt8) {e_ : Exit} {S_ : St} (x : (List Ints2 × List (List Int)) × (List Ints2 × List (List Int))) (he_ : e_ = .ret ∨ e_ = .normal)
    (h1 : (takeRes Try.prog S_ Try.f18.results.toList).1 ∧ resD (takeRes Try.prog S_ Try.f18.results.toList).2.1 = DrawGraphSame_enc0 x) (hg : DrawGraphSame_good xs x) :
    retR Try.prog Try.f18 (fun c => (DrawGraphSame_enc0 (DrawGraphSame_sel xs c), fun _ => none)) e_ S_ := ret_prel (enc := DrawGraphSame_enc0) x he_ h1 hg
theorem DrawGraphSame_retE (xs : List UInt8) {e_ : Exit} {S_ : St} (he_ : e_ = .ret ∨ e_ = .normal)
    (h : ∃ x, (takeRes Try.prog S_ Try.f18.results.toList).1 ∧ resD (takeRes Try.prog S_ Try.f18.results.toList).2.1 = DrawGraphSame_enc0 x ∧ DrawGraphSame_good xs x) :
    retR Try.prog Try.f18 (fun c => (DrawGraphSame_enc0 (DrawGraphSame_sel xs c), fun _ => none)) e_ S_ := by
  obtain ⟨x, h1, h2, h3⟩ := h
  exact DrawGraphSame_ret _ x he_ ⟨h1, h2⟩ h3
set_option maxHeartbeats 4000000 in
theorem DrawGraphSame_pure (xs : List UInt8)  : SpecR Try.prog 18 [li cY xs] (fun _ => none) (fun c => (DrawGraphSame_enc0 (DrawGraphSame_sel xs c), fun _ => none)) := by
  refine SpecR.of_walk Try.func18 rfl (by simp [Try.f18]) fun B => ?_
  have hl := cut_len xs
  all_goals (repeat' (first
    | refine AW_seq ?_
    | refine AW_region (id := 0) Γe34_ok [] (by kernel_rfl) ?_; simp  [-List.getD_eq_getElem?_getD, -List.drop_one, ↓splitB_true, ↓splitB_false, go_sem]
    | refine AW_region (id := 1) Γe34_ok [] (by kernel_rfl) ?_; simp  [-List.getD_eq_getElem?_getD, -List.drop_one, ↓splitB_true, ↓splitB_false, go_sem]; try (refine AW_matBox 4 rfl fun b hb => ?_; clear hb)
    | refine AW_region (id := 2) Γe34_ok [] (by kernel_rfl) ?_; simp  [-List.getD_eq_getElem?_getD, -List.drop_one, ↓splitB_true, ↓splitB_false, go_sem, hl]; try ((intro c2); (have z0 := l4Graph_ok 0 c2); (generalize l4Graph_sel 0 c2 = z at *); (obtain ⟨⟨ga, gb⟩, p1⟩ := z); (simp only [l4Graph_good] at z0); (obtain ⟨⟨z1, z2, z3⟩, z4, z5⟩ := z0); (try dsimp only at z2 z3 z4 z5); (refine AW_shut 5 ?_); (simp [go_sem]))
    | refine AW_region (id := 3) Γe34_ok [] (by kernel_rfl) ?_; simp  [-List.getD_eq_getElem?_getD, -List.drop_one, ↓splitB_true, ↓splitB_false, go_sem, hl, (show 0 ≤ p1 by omega), (show p1 ≤ 1000000 by omega), (show 0 ≤ p1 + 1 by omega), (show p1 + 1 ≤ 1000000 by omega)]
    | refine AW_region_snap (id := 4) Γe34_ok mixed [] [] [] (by kernel_rfl) (by kernel_rfl) (by simp [-List.getD_eq_getElem?_getD, -List.drop_one, ↓splitB_true, ↓splitB_false, go_sem, hl, (show 0 ≤ p1 + 1 by omega), (show p1 + 1 ≤ 1000000 by omega), (show 0 ≤ p1 + 1 + 1 by omega), (show p1 + 1 + 1 ≤ 1000000 by omega), (show p1 + 1 + 2100 ≤ 1000000 by omega)]) (by simp [-List.getD_eq_getElem?_getD, -List.drop_one, ↓splitB_true, ↓splitB_false, go_sem, hl, (show 0 ≤ p1 + 1 by omega), (show p1 + 1 ≤ 1000000 by omega), (show 0 ≤ p1 + 1 + 1 by omega), (show p1 + 1 + 1 ≤ 1000000 by omega), (show p1 + 1 + 2100 ≤ 1000000 by omega)]) ?_; simp  [-List.getD_eq_getElem?_getD, -List.drop_one, ↓splitB_true, ↓splitB_false, go_sem, hl, (show 0 ≤ p1 + 1 by omega), (show p1 + 1 ≤ 1000000 by omega), (show 0 ≤ p1 + 1 + 1 by omega), (show p1 + 1 + 1 ≤ 1000000 by omega), (show p1 + 1 + 2100 ≤ 1000000 by omega)]; try ((intro c4); (have y0 := l4Graph_ok (p1 + 1) c4); (generalize l4Graph_sel (p1 + 1) c4 = y at *); (obtain ⟨⟨ha, hb⟩, p2⟩ := y))
    | refine AW_region (id := 5) Γe34_ok [] (by kernel_rfl) ?_; simp  [-List.getD_eq_getElem?_getD, -List.drop_one, ↓splitB_true, ↓splitB_false, go_sem, hl, (show 0 ≤ p1 + 1 by omega), (show p1 + 1 ≤ 1000000 by omega), (show 0 ≤ p1 + 1 + 1 by omega), (show p1 + 1 + 1 ≤ 1000000 by omega), (show p1 + 1 + 4 ≤ 1000000 by omega), z1.copy, z2, (show ga.length ≤ gb.length by omega)]; try ((intro c5); (have y0 := l4Mutate_ok ga gb z1.copy z2 (by omega) (p1 + 1) c5); (generalize l4Mutate_sel ga gb (p1 + 1) c5 = y at *); (obtain ⟨⟨ma, mb⟩, p5⟩ := y); (simp only [l4Mutate_good] at y0); (obtain ⟨y1, y2, y3⟩ := y0); (try dsimp only at y2 y3); (refine AW_matBox 6 rfl fun mk hmk => ?_); (have n1 : ¬ b = mk := (by rintro rfl; simp [upd] at hmk)); (clear hmk); (refine AW_gen (fun H1 => H1 b = some [.list (cut2000 xs).length (cat cY (cut2000 xs)), .int .i64 p5] ∧ H1 mk = some [li cP ma, li cL mb]) ⟨by simp [upd, n1, Ne.symm n1], by simp [upd, n1, Ne.symm n1, li]⟩ fun H1 ⟨w1, w2⟩ => ?_))
    | refine AW_region (id := 6) Γe34_ok [] (by kernel_rfl) ?_; simp  [-List.getD_eq_getElem?_getD, -List.drop_one, ↓splitB_true, ↓splitB_false, go_sem, w2]
    | ((have y4 := y1.copy z1); (have y5 : 1 ≤ ma.length := (by omega)); (have y6 : ma.length ≤ mb.length := (by have := y1.1; dsimp only at this; omega))); refine AW_region (id := 7) Γe34_ok [] (by kernel_rfl) ?_; simp  [-List.getD_eq_getElem?_getD, -List.drop_one, ↓splitB_true, ↓splitB_false, go_sem, hl, w1, w2, n1, Ne.symm n1, (show 0 ≤ p5 by omega), (show p5 ≤ 1000000 by omega), (show 0 ≤ p5 + 1 by omega), (show p5 + 1 ≤ 1000000 by omega), (show p5 + 4 ≤ 1000000 by omega), y4, y5, y6]; try ((intro c7); (generalize l4Mutate_sel ma mb p5 c7 = x at *); (obtain ⟨⟨na, nb⟩, p7⟩ := x); (obtain ⟨va, hva⟩ : ∃ va, va = na := ⟨_, rfl⟩); (obtain ⟨vb, hvb⟩ : ∃ vb, vb = nb := ⟨_, rfl⟩); (refine AW_gen (fun H2 => H2 mk = some [li cP va, li cL vb]) (by simp [upd, n1, Ne.symm n1, li, hva, hvb]) fun H2 v2 => ?_); (have fl : True ∧ True := ⟨trivial, trivial⟩))
    | (first | (rename True ∧ True => k_; skip) | ((obtain ⟨va, hva⟩ : ∃ va, va = ma := ⟨_, rfl⟩); (obtain ⟨vb, hvb⟩ : ∃ vb, vb = mb := ⟨_, rfl⟩); (refine AW_gen (fun H2 => H2 mk = some [li cP va, li cL vb]) (by simp [upd, n1, Ne.symm n1, li, hva, hvb, w2]) fun H2 v2 => ?_))); refine AW_region_snap (id := 8) Γe34_ok mixed [(mk, [li cP va, li cL vb])] [] [] (by kernel_rfl) (by kernel_rfl) (by simp [-List.getD_eq_getElem?_getD, -List.drop_one, ↓splitB_true, ↓splitB_false, go_sem, v2, n1, Ne.symm n1]) (by simp [-List.getD_eq_getElem?_getD, -List.drop_one, ↓splitB_true, ↓splitB_false, go_sem, v2, n1, Ne.symm n1]) ?_; simp  [-List.getD_eq_getElem?_getD, -List.drop_one, ↓splitB_true, ↓splitB_false, go_sem, v2, n1, Ne.symm n1]
    | refine AW_condA (c := .tmp 13) ?_; simp [-List.getD_eq_getElem?_getD, -List.drop_one, ↓splitB_true, ↓splitB_false, go_sem]; try first | (refine ⟨?_, ?_⟩ <;> change AW _ _ _ _ _ _) | (refine ⟨fun c13 => ?_, fun c13 => ?_⟩ <;> (try simp [B_iff, B_not] at c13))
    | refine AW_condA (c := .tmp 23) ?_; simp [-List.getD_eq_getElem?_getD, -List.drop_one, ↓splitB_true, ↓splitB_false, go_sem]; try first | (refine ⟨?_, ?_⟩ <;> change AW _ _ _ _ _ _) | (refine ⟨fun c23 => ?_, fun c23 => ?_⟩ <;> (try simp [B_iff, B_not] at c23))
    | (refine AW_block ?_)
    | (refine AW_exit ?_; simp [-List.getD_eq_getElem?_getD, -List.drop_one, ↓splitB_true, ↓splitB_false, go_sem])
    | (refine AW_skip ?_; simp [-List.getD_eq_getElem?_getD, -List.drop_one, ↓splitB_true, ↓splitB_false, go_sem])
    | (refine AW_ret ?_; try simp [-List.getD_eq_getElem?_getD, -List.drop_one, ↓splitB_true, ↓splitB_false, go_sem, Try.results18])
    | (intro hx; change AW _ _ _ _ _ _)
    | (intro hx; change retR _ _ _ _ _)
    | (refine ⟨?_, ?_⟩ <;> change AW _ _ _ _ _ _)
    | (intro hx; refine ⟨fun hs => ?_, fun hs => ?_⟩)
    | (refine ⟨fun hs => ?_, fun hs => ?_⟩)
    | (refine ⟨?_, fun hs => ?_⟩; change AW _ _ _ _ _ _)
    | (refine ⟨fun hs => ?_, ?_⟩; rotate_left; change AW _ _ _ _ _ _; rotate_left)))
  all_goals (first
    | (refine DrawGraphSame_ret _ (((ga, gb), (ha, hb))) ?_ ?_ ?_; (first | exact Or.inl rfl | exact Or.inr rfl); (focus (simp [-List.getD_eq_getElem?_getD, -List.drop_one, ↓splitB_true, ↓splitB_false, go_sem, Try.results18, dat, datL_map, li, cat_flat2]; done)); (focus ((trivial); done)))
    | (refine DrawGraphSame_ret _ (((ga, gb), (va, vb))) ?_ ?_ ?_; (first | exact Or.inl rfl | exact Or.inr rfl); (focus (simp [-List.getD_eq_getElem?_getD, -List.drop_one, ↓splitB_true, ↓splitB_false, go_sem, Try.results18, dat, datL_map, li, cat_flat2]; done)); (focus ((trivial); done)))
    | skip)
noncomputable def DrawGraphSameC : Con := .rel fun args H => match args with
  | [.list n_xs c_xs] => ((Is cY n_xs c_xs), fun c => (DrawGraphSame_enc (DrawGraphSame_sel (de cY c_xs) c), H))
  | _ => (False, fun _ => (.any, H))
attribute [go_sem] DrawGraphSameC
theorem DrawGraphSameC_ok : ConOk Try.prog 18 DrawGraphSameC := by
  refine ⟨callable Try.func18 (by decide) rfl, fun args H h => ?_⟩
  revert h
  dsimp only
  split
  · intro h
    obtain ⟨xs, rfl, rfl⟩ := h
    try simp only [de_cat] at *
    have h1_ := (SpecR.frame0 (DrawGraphSame_pure xs ) (H := H)).shut
    simp only [DrawGraphSame_dat] at h1_
    exact h1_
  · intro h
    exact h.elim
noncomputable def Γe35 : FuncId → Con := ext Γe34 18 DrawGraphSameC
attribute [go_sem] Γe35
theorem Γe35_ok : ∀ g, ConOk Try.prog g (Γe35 g) := ext_ok Γe34_ok DrawGraphSameC_ok
end Go.Proofs.Ytljncoikoffijaa.Vm

