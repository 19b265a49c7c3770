/-
  Draws: a graph. No conditions.
-/
import Derived.Test.YtoklpofekcclhaaE20
import Derived.Test.YtoklpofekcclhaaJ10
namespace Go.Proofs.Ytoklpofekcclhaa.Vm
open Go
set_option linter.unusedVariables false
set_option linter.unusedSimpArgs false
set_option maxRecDepth 200000

theorem implCmF (a : List Ints2) (b : List (List Int)) : Pure Try.prog 29 [.st [li cP a, li cL b]] (fr 1 cI (cmL a b)) := (implCm_pure a b).nilfr

noncomputable def implCmFC : Con := .pure fun
  | [.st [.list n_a c_a, .list n_b c_b]] => ((Is cP n_a c_a) ∧ (Is cL n_b c_b), fr 1 cI (cmL (de cP c_a) (de cL c_b)))
  | _ => (False, .any)
attribute [go_sem] implCmFC
theorem implCmFC_ok : ConOk Try.prog 29 implCmFC := by
  refine ⟨callable Try.func29 (by decide) rfl, fun args h => ?_⟩
  revert h
  dsimp only
  split
  · intro h
    obtain ⟨⟨a, rfl, rfl⟩, ⟨b, rfl, rfl⟩⟩ := h
    try simp only [de_cat] at *
    exact ⟨implCmF a b, by simp [go_sem]⟩
  · intro h
    exact h.elim
noncomputable def Γc1 : FuncId → Con := ext Γe36f 29 implCmFC
attribute [go_sem] Γc1
theorem Γc1_ok : ∀ g, ConOk Try.prog g (Γc1 g) := ext_ok Γe36f_ok implCmFC_ok

theorem specCmF (a : List Ints2) (b : List (List Int)) : Pure Try.prog 27 [.st [li cP a, li cL b]] (fr 1 cI (cmL a b)) := specCm_pure a b

noncomputable def specCmFC : Con := .pure fun
  | [.st [.list n_a c_a, .list n_b c_b]] => ((Is cP n_a c_a) ∧ (Is cL n_b c_b), fr 1 cI (cmL (de cP c_a) (de cL c_b)))
  | _ => (False, .any)
attribute [go_sem] specCmFC
theorem specCmFC_ok : ConOk Try.prog 27 specCmFC := by
  refine ⟨callable Try.func27 (by decide) rfl, fun args h => ?_⟩
  revert h
  dsimp only
  split
  · intro h
    obtain ⟨⟨a, rfl, rfl⟩, ⟨b, rfl, rfl⟩⟩ := h
    try simp only [de_cat] at *
    exact ⟨specCmF a b, by simp [go_sem]⟩
  · intro h
    exact h.elim
noncomputable def Γc2 : FuncId → Con := ext Γc1 27 specCmFC
attribute [go_sem] Γc2
theorem Γc2_ok : ∀ g, ConOk Try.prog g (Γc2 g) := ext_ok Γc1_ok specCmFC_ok

set_option maxHeartbeats 4000000 in

noncomputable def DrawGraphValid_enc : List Ints2 × List (List Int) → D := fun x => sG x
attribute [go_sem] DrawGraphValid_enc
theorem DrawGraphValid_flat (x : List Ints2 × List (List Int)) : dat (DrawGraphValid_enc x) = DrawGraphValid_enc x := by simp [go_sem]
def DrawGraphValid_good (xs : List UInt8) : List Ints2 × List (List Int) → Prop := fun _ => True
def DrawGraphValid_gd (xs : List UInt8) (x : (List Ints2 × List (List Int)) × D) : Prop := DrawGraphValid_good xs x.1 ∧ dat x.2 = DrawGraphValid_enc x.1
noncomputable def DrawGraphValid_selD (xs : List UInt8) (c : Any) : (List Ints2 × List (List Int)) × D := sel (DrawGraphValid_gd xs) ((([], []) : List Ints2 × List (List Int)), DrawGraphValid_enc (([], []))) c
noncomputable def DrawGraphValid_sel (xs : List UInt8) (c : Any) : List Ints2 × List (List Int) := (DrawGraphValid_selD xs c).1
theorem DrawGraphValid_okD (xs : List UInt8)  (c : Any) : DrawGraphValid_gd xs (DrawGraphValid_selD xs c) := by
  have hx : DrawGraphValid_good xs (([], [])) := trivial
  exact sel_ok (p := DrawGraphValid_gd xs) (x0 := ((([], []) : List Ints2 × List (List Int)), DrawGraphValid_enc (([], [])))) ⟨hx, DrawGraphValid_flat _⟩ c
theorem DrawGraphValid_ok (xs : List UInt8)  (c : Any) : DrawGraphValid_good xs (DrawGraphValid_sel xs c) := (DrawGraphValid_okD xs  c).1
theorem DrawGraphValid_ret (xs : List UInt8) {e_ : Exit} {S_ : St} (x : List Ints2 × List (List Int)) (he_ : e_ = .ret ∨ e_ = .normal)
    (h1 : (takeRes Try.prog S_ Try.f128.results.toList).1 ∧ dat (resD (takeRes Try.prog S_ Try.f128.results.toList).2.1) = DrawGraphValid_enc x) (hg : DrawGraphValid_good xs x) :
    retR Try.prog Try.f128 (fun c => ((DrawGraphValid_selD xs c).2, fun _ => none)) e_ S_ :=
  ret_prel (good := DrawGraphValid_gd xs) (enc := fun x : (List Ints2 × List (List Int)) × D => x.2) (x, resD (takeRes Try.prog S_ Try.f128.results.toList).2.1) he_ ⟨h1.1, rfl⟩ ⟨hg, h1.2⟩
set_option maxHeartbeats 4000000 in
theorem DrawGraphValid_pure (xs : List UInt8)  : SpecR Try.prog 128 [li cY xs] (fun _ => none) (fun c => ((DrawGraphValid_selD xs c).2, fun _ => none)) := by
  refine SpecR.of_walk Try.func128 rfl (by simp [Try.f128]) fun B => ?_
  have hl := cut_len xs
  all_goals (repeat' (first
    | refine AW_seq ?_
    | refine AW_region (id := 0) Γc2_ok [] (by kernel_rfl) ?_; simp  [-List.getD_eq_getElem?_getD, -List.drop_one, ↓splitB_true, ↓splitB_false, go_sem]
    | refine AW_region (id := 1) Γc2_ok [] (by kernel_rfl) ?_; simp  [-List.getD_eq_getElem?_getD, -List.drop_one, ↓splitB_true, ↓splitB_false, go_sem]; try (refine AW_matBox 3 rfl fun b hb => ?_; clear hb)
    | ((have u1 := drawn_copy 0); (have u2 := drawn_pos); (have u3 : ∀ c, CopyOk (l4Graph_sel 0 c).1.1 (l4Graph_sel 0 c).1.2 := fun c => (u1 c).1); (have u4 : ∀ c, 1 ≤ (l4Graph_sel 0 c).1.1.length := fun c => (u1 c).2.1); (have u5 : ∀ c, (l4Graph_sel 0 c).1.1.length ≤ (l4Graph_sel 0 c).1.2.length := fun c => (u1 c).2.2.1)); refine AW_region (id := 2) Γc2_ok [] (by kernel_rfl) ?_; simp  [-List.getD_eq_getElem?_getD, -List.drop_one, ↓splitB_true, ↓splitB_false, go_sem, hl, u2, u3, u4, u5]; try ((intro c2 c2'); (generalize l4Mutate_sel _ _ _ c2' = y at *); (obtain ⟨⟨ma, mb⟩, p2⟩ := y))
    | (refine AW_block ?_)
    | (refine AW_exit ?_; simp [-List.getD_eq_getElem?_getD, -List.drop_one, ↓splitB_true, ↓splitB_false, go_sem])
    | (refine AW_skip ?_; simp [-List.getD_eq_getElem?_getD, -List.drop_one, ↓splitB_true, ↓splitB_false, go_sem])
    | (refine AW_ret ?_; try simp [-List.getD_eq_getElem?_getD, -List.drop_one, ↓splitB_true, ↓splitB_false, go_sem, Try.results128])
    | (intro hx; change AW _ _ _ _ _ _)
    | (intro hx; change retR _ _ _ _ _)
    | (refine ⟨?_, ?_⟩ <;> change AW _ _ _ _ _ _)
    | (intro hx; refine ⟨fun hs => ?_, fun hs => ?_⟩)
    | (refine ⟨fun hs => ?_, fun hs => ?_⟩)
    | (refine ⟨?_, fun hs => ?_⟩; change AW _ _ _ _ _ _)
    | (refine ⟨fun hs => ?_, ?_⟩; rotate_left; change AW _ _ _ _ _ _; rotate_left)))
  all_goals (first
    | (refine DrawGraphValid_ret _ ((ma, mb)) ?_ ?_ ?_; (first | exact Or.inl rfl | exact Or.inr rfl); (focus (simp [-List.getD_eq_getElem?_getD, -List.drop_one, ↓splitB_true, ↓splitB_false, go_sem, Try.results128, dat, datL_map, li, cat_flat2]; done)); (focus ((trivial); done)))
    | skip)
noncomputable def DrawGraphValidC : Con := .rel fun args H => match args with
  | [.list n_xs c_xs] => ((Is cY n_xs c_xs), fun c => (DrawGraphValid_enc (DrawGraphValid_sel (de cY c_xs) c), H))
  | _ => (False, fun _ => (.any, H))
attribute [go_sem] DrawGraphValidC
theorem DrawGraphValidC_ok : ConOk Try.prog 128 DrawGraphValidC := by
  refine ⟨callable Try.func128 (by decide) rfl, fun args H h => ?_⟩
  revert h
  dsimp only
  split
  · intro h
    obtain ⟨xs, rfl, rfl⟩ := h
    try simp only [de_cat] at *
    exact SpecR.enc ((SpecR.frame0 (DrawGraphValid_pure xs ) (H := H)).shut) fun c => Prod.ext (DrawGraphValid_okD _  c).2.symm rfl
  · intro h
    exact h.elim
noncomputable def Γc3 : FuncId → Con := ext Γc2 128 DrawGraphValidC
attribute [go_sem] Γc3
theorem Γc3_ok : ∀ g, ConOk Try.prog g (Γc3 g) := ext_ok Γc2_ok DrawGraphValidC_ok

set_option maxHeartbeats 4000000 in

noncomputable def DrawComponents_enc : List Ints2 × List (List Int) → D := fun x => sG x
attribute [go_sem] DrawComponents_enc
theorem DrawComponents_flat (x : List Ints2 × List (List Int)) : dat (DrawComponents_enc x) = DrawComponents_enc x := by simp [go_sem]
def DrawComponents_good (xs : List UInt8) : List Ints2 × List (List Int) → Prop := fun _ => True
def DrawComponents_gd (xs : List UInt8) (x : (List Ints2 × List (List Int)) × D) : Prop := DrawComponents_good xs x.1 ∧ dat x.2 = DrawComponents_enc x.1
noncomputable def DrawComponents_selD (xs : List UInt8) (c : Any) : (List Ints2 × List (List Int)) × D := sel (DrawComponents_gd xs) ((([], []) : List Ints2 × List (List Int)), DrawComponents_enc (([], []))) c
noncomputable def DrawComponents_sel (xs : List UInt8) (c : Any) : List Ints2 × List (List Int) := (DrawComponents_selD xs c).1
theorem DrawComponents_okD (xs : List UInt8)  (c : Any) : DrawComponents_gd xs (DrawComponents_selD xs c) := by
  have hx : DrawComponents_good xs (([], [])) := trivial
  exact sel_ok (p := DrawComponents_gd xs) (x0 := ((([], []) : List Ints2 × List (List Int)), DrawComponents_enc (([], [])))) ⟨hx, DrawComponents_flat _⟩ c
theorem DrawComponents_ok (xs : List UInt8)  (c : Any) : DrawComponents_good xs (DrawComponents_sel xs c) := (DrawComponents_okD xs  c).1
theorem DrawComponents_ret (xs : List UInt8) {e_ : Exit} {S_ : St} (x : List Ints2 × List (List Int)) (he_ : e_ = .ret ∨ e_ = .normal)
    (h1 : (takeRes Try.prog S_ Try.f55.results.toList).1 ∧ dat (resD (takeRes Try.prog S_ Try.f55.results.toList).2.1) = DrawComponents_enc x) (hg : DrawComponents_good xs x) :
    retR Try.prog Try.f55 (fun c => ((DrawComponents_selD xs c).2, fun _ => none)) e_ S_ :=
  ret_prel (good := DrawComponents_gd xs) (enc := fun x : (List Ints2 × List (List Int)) × D => x.2) (x, resD (takeRes Try.prog S_ Try.f55.results.toList).2.1) he_ ⟨h1.1, rfl⟩ ⟨hg, h1.2⟩
set_option maxHeartbeats 4000000 in
theorem DrawComponents_pure (xs : List UInt8)  : SpecR Try.prog 55 [li cY xs] (fun _ => none) (fun c => ((DrawComponents_selD xs c).2, fun _ => none)) := by
  refine SpecR.of_walk Try.func55 rfl (by simp [Try.f55]) fun B => ?_
  (repeat' (first
    | refine AW_seq ?_
    | refine AW_region (id := 0) Γc3_ok [] (by kernel_rfl) ?_; simp  [-List.getD_eq_getElem?_getD, -List.drop_one, ↓splitB_true, ↓splitB_false, go_sem]
    | refine AW_region (id := 1) Γc3_ok [] (by kernel_rfl) ?_; simp  [-List.getD_eq_getElem?_getD, -List.drop_one, ↓splitB_true, ↓splitB_false, go_sem]; try ((intro c1); (generalize DrawGraphValid_sel xs c1 = y at *); (obtain ⟨ma, mb⟩ := y))
    | (refine AW_block ?_)
    | (refine AW_exit ?_; simp [-List.getD_eq_getElem?_getD, -List.drop_one, ↓splitB_true, ↓splitB_false, go_sem])
    | (refine AW_skip ?_; simp [-List.getD_eq_getElem?_getD, -List.drop_one, ↓splitB_true, ↓splitB_false, go_sem])
    | (refine AW_ret ?_; try simp [-List.getD_eq_getElem?_getD, -List.drop_one, ↓splitB_true, ↓splitB_false, go_sem, Try.results55])
    | (intro hx; change AW _ _ _ _ _ _)
    | (intro hx; change retR _ _ _ _ _)
    | (refine ⟨?_, ?_⟩ <;> change AW _ _ _ _ _ _)
    | (intro hx; refine ⟨fun hs => ?_, fun hs => ?_⟩)
    | (refine ⟨fun hs => ?_, fun hs => ?_⟩)
    | (refine ⟨?_, fun hs => ?_⟩; change AW _ _ _ _ _ _)
    | (refine ⟨fun hs => ?_, ?_⟩; rotate_left; change AW _ _ _ _ _ _; rotate_left)))
  all_goals (first
    | (refine DrawComponents_ret _ ((ma, mb)) ?_ ?_ ?_; (first | exact Or.inl rfl | exact Or.inr rfl); (focus (simp [-List.getD_eq_getElem?_getD, -List.drop_one, ↓splitB_true, ↓splitB_false, go_sem, Try.results55, dat, datL_map, li, cat_flat2]; done)); (focus ((trivial); done)))
    | skip)
noncomputable def DrawComponentsC : Con := .rel fun args H => match args with
  | [.list n_xs c_xs] => ((Is cY n_xs c_xs), fun c => (DrawComponents_enc (DrawComponents_sel (de cY c_xs) c), H))
  | _ => (False, fun _ => (.any, H))
attribute [go_sem] DrawComponentsC
theorem DrawComponentsC_ok : ConOk Try.prog 55 DrawComponentsC := by
  refine ⟨callable Try.func55 (by decide) rfl, fun args H h => ?_⟩
  revert h
  dsimp only
  split
  · intro h
    obtain ⟨xs, rfl, rfl⟩ := h
    try simp only [de_cat] at *
    exact SpecR.enc ((SpecR.frame0 (DrawComponents_pure xs ) (H := H)).shut) fun c => Prod.ext (DrawComponents_okD _  c).2.symm rfl
  · intro h
    exact h.elim
noncomputable def Γc4 : FuncId → Con := ext Γc3 55 DrawComponentsC
attribute [go_sem] Γc4
theorem Γc4_ok : ∀ g, ConOk Try.prog g (Γc4 g) := ext_ok Γc3_ok DrawComponentsC_ok

theorem named_first {xs : List Int} : ∀ {k : Nat}, k + 1 ≤ xs.length → nth (named xs (k + 1)) 0 = 0
  | 0, h => by
    rw [named_succ (by omega)]
    obtain ⟨x, xs, rfl⟩ : ∃ y ys, xs = y :: ys := by cases xs; simp at h; exact ⟨_, _, rfl⟩
    simp [named, dist, nth]
  | k + 1, h => by
    rw [named_succ (by omega), nth_app1 (by rw [named_len (by omega)]; omega)]
    exact named_first (by omega)
theorem cm_first {a : List Ints2} {b : List (List Int)} (h : GraphOk a b) : nth (cmL a b) 0 = 0 := by
  have h1 := h.1
  have h2 := h.next.2.2.1
  obtain ⟨n, e⟩ : ∃ n, b.length = n + 1 := ⟨b.length - 1, by omega⟩
  have h3 := named_first (xs := (tAll b b.length).part) (k := n) (by rw [part_len h.next.1]; omega)
  rw [← e] at h3
  rw [cmL_yes (B_yes h)]
  exact h3
theorem sp_pos {a : List Ints2} {b : List (List Int)} (h : GraphOk a b) {x y : Int} (hx : Nd b x) (hy : Nd b y) : 0 < (spL a b x y).length ↔ Rch b x y := by
  have hl := h.next.2.2.1
  have n1 := h.next.1
  have hA : PathAsk a b x y := ⟨h, hx.1, hy.1, by rw [← hl]; exact hx.2, by rw [← hl]; exact hy.2⟩
  rw [spL_yes hA, ← bfs_rch n1 hx]
  constructor
  · intro q
    refine Classical.byContradiction fun c => ?_
    rw [shW_out c] at q
    simp at q
  · intro q
    rw [shW_goal n1 hx.1 hx.2 q]
    obtain ⟨m, hm, e⟩ := mem_idx q
    have hB := bfsE_ok n1 (Starts.one hx.1 hx.2)
    rw [← e, backTo_up hB m hm _ (m + 2) (by rw [pmP_len, hB.len]; have := hB.le; omega) (Nat.le_refl _)]
    have := up_ne (P := (bfsE b [x]).1) (f := m + 1) (hB.rng m hm).1
    exact List.length_pos_iff.2 this
/-- One component, or not. -/
theorem cm_both {a : List Ints2} {b : List (List Int)} (h : GraphOk a b) {x y : Int} (hx : Nd b x) (hy : Nd b y) : nth (cmL a b) x.toNat = nth (cmL a b) y.toNat ↔ (0 < (spL a b x y).length ∧ 0 < (spL a b y x).length) := by
  rw [sp_pos h hx hy, sp_pos h hy hx, cmL_yes (B_yes h)]
  have := compsL_same h.next.1 (i := x.toNat) (j := y.toNat) (by have := hx.1; have := hx.2; omega) (by have := hy.1; have := hy.2; omega)
  rw [this, Int.toNat_of_nonneg hx.1, Int.toNat_of_nonneg hy.1]
end Go.Proofs.Ytoklpofekcclhaa.Vm

