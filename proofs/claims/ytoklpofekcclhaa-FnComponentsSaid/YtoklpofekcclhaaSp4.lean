/-
  ShortestPath, both ways. No conditions.
-/
import Derived.Test.YtoklpofekcclhaaSp3
namespace Go.Proofs.Ytoklpofekcclhaa.Vm
open Go
set_option linter.unusedVariables false
set_option linter.unusedSimpArgs false
set_option maxRecDepth 200000

theorem GraphOk.next {a : List Ints2} {b : List (List Int)} (h : GraphOk a b) : NextOk b ∧ NextS b ∧ b.length = a.length ∧ a.length ≤ 60 ∧ b.length ≤ 1048576 := by
  obtain ⟨g1, g2, g3, g4, g5⟩ := h
  refine ⟨fun j hj k hk => ?_, fun j hj => ?_, g3, g2, by omega⟩
  · have := (g5 j hj).2 k hk
    omega
  · have := (g5 j hj).2.len
    omega
/-- What is asked is well-made. -/
def PathAsk (a : List Ints2) (b : List (List Int)) (x y : Int) : Prop := GraphOk a b ∧ 0 ≤ x ∧ 0 ≤ y ∧ x < a.length ∧ y < a.length
/-- The answer. -/
noncomputable def spL (a : List Ints2) (b : List (List Int)) (x y : Int) : List Int := if B (PathAsk a b x y) = true then shW b [x] (fun z => decide (z = y)) else []
theorem spL_no {a : List Ints2} {b : List (List Int)} {x y : Int} (h : ¬ PathAsk a b x y) : spL a b x y = [] := by rw [spL, B_no h, if_neg (by simp)]
theorem spL_yes {a : List Ints2} {b : List (List Int)} {x y : Int} (h : PathAsk a b x y) : spL a b x y = shW b [x] (fun z => decide (z = y)) := by rw [spL, B_yes h, if_pos rfl]
theorem shW_goal {nx : List (List Int)} {x y : Int} (hx : NextOk nx) (h0 : 0 ≤ x) (h1 : x < nx.length) (h : y ∈ (bfsE nx [x]).2) : shW nx [x] (fun z => decide (z = y)) = backTo (pmP (bfsE nx [x]).1) x ((pmP (bfsE nx [x]).1).length + 1) y := by
  have hB := bfsE_ok hx (Starts.one h0 h1)
  obtain ⟨m, hm, e⟩ := mem_idx h
  have hlt := hB.le
  have hf : 0 ≤ findI (fun z => decide (z = y)) (bfsE nx [x]).2 := by
    rw [findI_ge]; exact ⟨m, hm, by simpa using e⟩
  obtain ⟨i, hi, e2⟩ : ∃ i, i < (bfsE nx [x]).2.length ∧ findI (fun z => decide (z = y)) (bfsE nx [x]).2 = i ∧ nth (bfsE nx [x]).2 i = y := by
    unfold findI at hf ⊢
    split at hf
    · rename_i i hi
      rw [List.findIdx?_eq_some_iff_getElem] at hi
      obtain ⟨q1, q2, _⟩ := hi
      exact ⟨i, q1, rfl, by rw [nth_lt q1]; simpa using q2⟩
    · omega
  rw [shW, e2.1, if_neg (by omega), Int.toNat_natCast, e2.2, ← e2.2, ← backTo_up hB i hi ((pmP (bfsE nx [x]).1).length + 1) (nx.length + 1) (by rw [pmP_len, hB.len]; omega) (by omega)]
theorem shW_out {nx : List (List Int)} {x y : Int} (h : ¬ y ∈ (bfsE nx [x]).2) : shW nx [x] (fun z => decide (z = y)) = [] := by
  have hf : ¬ 0 ≤ findI (fun z => decide (z = y)) (bfsE nx [x]).2 := by
    rw [findI_ge]; rintro ⟨i, hi, e⟩
    apply h; rw [mem_nth]; exact ⟨i, hi, by simpa using e⟩
  rw [shW, if_pos (by omega)]

theorem path_pure (a : List Ints2) (b : List (List Int)) (x : Int) (y : Int) (hG : GraphOk a b) (h0 : 0 ≤ x) (h1 : x < b.length) : Pure Try.prog 130 [.st [li cP a, li cL b], .int .i64 x, .int .i64 y] (if shW b [x] (fun z => decide (z = y)) = [] then .nil else fr 1 cI (shW b [x] (fun z => decide (z = y)))) := by
  refine Pure.of_walk Try.func130 rfl (by simp [Try.f130]) (by simp [-List.drop_one, go_sem]) fun B hK => ?_
  obtain ⟨n1, n2, n3, n4, n5⟩ := hG.next; have hS := Starts.one h0 h1
  all_goals (repeat' (first
    | refine AW_seq ?_
    | refine AW_region (id := 0) Γs5_ok [] (by kernel_rfl) ?_; simp  [-List.getD_eq_getElem?_getD, -List.drop_one, ↓splitB_true, ↓splitB_false, go_sem]; try (refine AW_data hK 3 ?_; refine AW_data hK 5 ?_; simp [go_sem])
    | refine AW_region (id := 1) Γs5_ok [] (by kernel_rfl) ?_; simp  [-List.getD_eq_getElem?_getD, -List.drop_one, ↓splitB_true, ↓splitB_false, go_sem, n1, n2, n5, hS, (show Is cI 1 [D.int .i64 x] ↔ True by rw [one_cI, is_cat]; simp), (show de cI [D.int .i64 x] = [x] by rw [one_cI, de_cat])]
    | (refine AW_block ?_)
    | (refine AW_exit ?_; simp [-List.getD_eq_getElem?_getD, -List.drop_one, ↓splitB_true, ↓splitB_false, go_sem])
    | (refine AW_skip ?_; simp [-List.getD_eq_getElem?_getD, -List.drop_one, ↓splitB_true, ↓splitB_false, go_sem])
    | (refine AW_ret ?_; simp [-List.getD_eq_getElem?_getD, -List.drop_one, ↓splitB_true, ↓splitB_false, go_sem, Try.results130])
    | (intro hx; change AW _ _ _ _ _ _)
    | (refine ⟨?_, ?_⟩ <;> change AW _ _ _ _ _ _)
    | (intro hx; refine ⟨fun hs => ?_, fun hs => ?_⟩)
    | (refine ⟨fun hs => ?_, fun hs => ?_⟩)
    | (refine ⟨?_, fun hs => ?_⟩; change AW _ _ _ _ _ _)
    | (refine ⟨fun hs => ?_, ?_⟩; rotate_left; change AW _ _ _ _ _ _; rotate_left)))
noncomputable def path_pureC : Con := .pure fun
  | [.st [.list n_a c_a, .list n_b c_b], .int .i64 x, .int .i64 y] => ((Is cP n_a c_a) ∧ (Is cL n_b c_b) ∧ (GraphOk (de cP c_a) (de cL c_b)) ∧ (0 ≤ x) ∧ (x < (de cL c_b).length), if shW (de cL c_b) [x] (fun z => decide (z = y)) = [] then .nil else fr 1 cI (shW (de cL c_b) [x] (fun z => decide (z = y))))
  | _ => (False, .any)
attribute [go_sem] path_pureC
theorem path_pureC_ok : ConOk Try.prog 130 path_pureC := by
  refine ⟨callable Try.func130 (by decide) rfl, fun args h => ?_⟩
  revert h
  dsimp only
  split
  · intro h
    obtain ⟨⟨a, rfl, rfl⟩, ⟨b, rfl, rfl⟩, hG, h0, h1⟩ := h
    try simp only [de_cat] at *
    exact ⟨path_pure a b _ _ hG h0 h1, by simp [go_sem]⟩
  · intro h
    exact h.elim
noncomputable def Γs6 : FuncId → Con := ext Γs5 130 path_pureC
attribute [go_sem] Γs6
theorem Γs6_ok : ∀ g, ConOk Try.prog g (Γs6 g) := ext_ok Γs5_ok path_pureC_ok

noncomputable def Γs7 : FuncId → Con := Γs6
attribute [go_sem] Γs7
theorem Γs7_ok : ∀ g, ConOk Try.prog g (Γs7 g) := Γs6_ok

theorem implSp_pure (a : List Ints2) (b : List (List Int)) (x : Int) (y : Int)  : Pure Try.prog 56 [.st [li cP a, li cL b], .int .i64 x, .int .i64 y] (if spL a b x y = [] then .nil else fr 1 cI (spL a b x y)) := by
  refine Pure.of_walk Try.func56 rfl (by simp [Try.f56]) (by simp [-List.drop_one, go_sem]) fun B hK => ?_
  cases hg : Vm.B (GraphOk a b)
  all_goals (repeat' (first
    | refine AW_seq ?_
    | refine AW_region (id := 0) Γs7_ok [] (by kernel_rfl) ?_; simp  [-List.getD_eq_getElem?_getD, -List.drop_one, ↓splitB_true, ↓splitB_false, go_sem]; try (refine AW_data hK 3 ?_; simp [go_sem])
    | (refine AW_lenP 3 0 ⟨rfl, rfl⟩ fun hm => ?_); refine AW_region (id := 1) Γs7_ok [10, 19] (by kernel_rfl) ?_; simp  [-List.getD_eq_getElem?_getD, -List.drop_one, ↓splitB_true, ↓splitB_false, go_sem, hg, wrap_in (x := (a.length : Int) - 1) (by omega) (by omega)]; try (refine ⟨fun s1a => ?_, fun s1a => ?_⟩ <;> (try simp [B_iff, B_not] at s1a) <;> try (refine ⟨fun s1b => ?_, fun s1b => ?_⟩ <;> (try simp [B_iff, B_not] at s1b) <;> try (refine ⟨fun s1c => ?_, fun s1c => ?_⟩ <;> (try simp [B_iff, B_not] at s1c))))
    | refine AW_region (id := 2) Γs7_ok [] (by kernel_rfl) ?_; simp  [-List.getD_eq_getElem?_getD, -List.drop_one, ↓splitB_true, ↓splitB_false, go_sem]
    | (have hG : GraphOk a b := (by rw [B_iff] at hg; exact hg); obtain ⟨n1, n2, n3, n4, n5⟩ := hG.next; (have hA : PathAsk a b x y := ⟨hG, by omega, by omega, by omega, by omega⟩); (have hx0 : 0 ≤ x := (by omega)); (have hx1 : x < b.length := (by omega))); refine AW_region (id := 3) Γs7_ok [] (by kernel_rfl) ?_; simp  [-List.getD_eq_getElem?_getD, -List.drop_one, ↓splitB_true, ↓splitB_false, go_sem, hG, hx0, hx1]
    | refine AW_condA (c := .tmp 27) ?_; simp [-List.getD_eq_getElem?_getD, -List.drop_one, ↓splitB_true, ↓splitB_false, go_sem]; try first | (refine ⟨?_, ?_⟩ <;> change AW _ _ _ _ _ _) | (refine ⟨fun c27 => ?_, fun c27 => ?_⟩ <;> (try simp [B_iff, B_not] at c27))
    | (refine AW_block ?_)
    | (refine AW_exit ?_; simp [-List.getD_eq_getElem?_getD, -List.drop_one, ↓splitB_true, ↓splitB_false, go_sem])
    | (refine AW_skip ?_; simp [-List.getD_eq_getElem?_getD, -List.drop_one, ↓splitB_true, ↓splitB_false, go_sem])
    | (refine AW_ret ?_; simp [-List.getD_eq_getElem?_getD, -List.drop_one, ↓splitB_true, ↓splitB_false, go_sem, Try.results56])
    | (intro hx; change AW _ _ _ _ _ _)
    | (refine ⟨?_, ?_⟩ <;> change AW _ _ _ _ _ _)
    | (intro hx; refine ⟨fun hs => ?_, fun hs => ?_⟩)
    | (refine ⟨fun hs => ?_, fun hs => ?_⟩)
    | (refine ⟨?_, fun hs => ?_⟩; change AW _ _ _ _ _ _)
    | (refine ⟨fun hs => ?_, ?_⟩; rotate_left; change AW _ _ _ _ _ _; rotate_left)))
  all_goals (first
    | (rw [spL_yes hA]; done)
    | (rw [spL_yes hA]; split <;> simp_all; done)
    | (have e : spL a b x y = [] := (spL_no (fun h => by first | (have := B_yes h.1; rw [hg] at this; cases this; done) | (obtain ⟨_, q1, q2, q3, q4⟩ := h; omega))); rw [e]; rfl)
    | (have e : spL a b x y = [] := (spL_no (fun h => by first | (have := B_yes h.1; rw [hg] at this; cases this; done) | (obtain ⟨_, q1, q2, q3, q4⟩ := h; omega))); exact e)
    | skip)
noncomputable def implSp_pureC : Con := .pure fun
  | [.st [.list n_a c_a, .list n_b c_b], .int .i64 x, .int .i64 y] => ((Is cP n_a c_a) ∧ (Is cL n_b c_b), if spL (de cP c_a) (de cL c_b) x y = [] then .nil else fr 1 cI (spL (de cP c_a) (de cL c_b) x y))
  | _ => (False, .any)
attribute [go_sem] implSp_pureC
theorem implSp_pureC_ok : ConOk Try.prog 56 implSp_pureC := by
  refine ⟨callable Try.func56 (by decide) rfl, fun args h => ?_⟩
  revert h
  dsimp only
  split
  · intro h
    obtain ⟨⟨a, rfl, rfl⟩, ⟨b, rfl, rfl⟩⟩ := h
    try simp only [de_cat] at *
    exact ⟨implSp_pure a b _ _, by simp [go_sem]⟩
  · intro h
    exact h.elim
noncomputable def Γs8 : FuncId → Con := ext Γs7 56 implSp_pureC
attribute [go_sem] Γs8
theorem Γs8_ok : ∀ g, ConOk Try.prog g (Γs8 g) := ext_ok Γs7_ok implSp_pureC_ok

end Go.Proofs.Ytoklpofekcclhaa.Vm

