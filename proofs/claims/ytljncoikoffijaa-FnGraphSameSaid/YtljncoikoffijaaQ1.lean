/-
  What stands at some places; QuotientTrace, both ways. No conditions.
-/
import Derived.Test.YtljncoikoffijaaG6
namespace Go.Proofs.Ytljncoikoffijaa.Vm
open Go
set_option linter.unusedVariables false
set_option linter.unusedSimpArgs false
set_option maxRecDepth 200000

@[go_sem] theorem makeD_1 (x : D) : makeD [x] 1 = [x] := by rw [makeD_one]; rfl
/-- What stands at some places of a list. -/
def pickL (xs ys : List Int) : List Int := ys.map fun y => nth xs y.toNat
@[go_sem] theorem pickL_len (xs ys : List Int) : (pickL xs ys).length = ys.length := by simp [pickL]
theorem nth_pickL {xs ys : List Int} {i : Nat} (h : i < ys.length) : nth (pickL xs ys) i = nth xs (nth ys i).toNat := by
  rw [nth_lt (by rw [pickL_len]; exact h), nth_lt h]; simp [pickL]
theorem pickL_succ {xs ys : List Int} {i : Nat} (h : i < ys.length) : cat cI (pickL xs (ys.take i)) ++ [.int .i64 (nth xs (nth ys i).toNat)] = cat cI (pickL xs (ys.take (i + 1))) := by
  rw [List.take_succ_eq_append_getElem h, nth_lt h]
  simp only [pickL, List.map_append, cat_append, List.map_cons, List.map_nil, cat_one, cI]
/-- All places lie in the list. -/
def Places (n : Nat) (ys : List Int) : Prop := ∀ i, i < ys.length → 0 ≤ nth ys i ∧ nth ys i < n
theorem Places.at {n : Nat} {ys : List Int} (h : Places n ys) {i : Nat} (hi : i < ys.length) : 0 ≤ nth ys i ∧ nth ys i < n ∧ (nth ys i).toNat < n := by
  obtain ⟨h1, h2⟩ := h i hi
  omega

theorem picked_pure (xs : List Int) (ys : List Int) (h0 : ys.length ≤ 1048576) (h1 : Places xs.length ys) : Pure Try.prog 111 [li cI xs, li cI ys] (fr 1 cI (pickL xs ys)) := by
  refine Pure.of_walk Try.func111 rfl (by simp [Try.f111]) (by simp [-List.drop_one, go_sem]) fun B hK => ?_
  have hd := pickL_len xs ys
  all_goals (repeat' (first
    | refine AW_seq ?_
    | refine AW_region (id := 0) Γg13_ok [] (by kernel_rfl) ?_; simp  [-List.getD_eq_getElem?_getD, -List.drop_one, ↓splitB_true, ↓splitB_false, go_sem]
    | refine AW_region (id := 1) Γg13_ok [] (by kernel_rfl) ?_; simp  [-List.getD_eq_getElem?_getD, -List.drop_one, ↓splitB_true, ↓splitB_false, go_sem, (by omega : 8 * (ys.length : Int) ≤ 281474976710656), (by omega : (ys.length : Int) ≤ 9223372036854775807)]; try ((refine AW_mat 5 rfl fun b cp j _ hcp hj => ?_))
    | refine AW_region (id := 2) Γg13_ok [] (by kernel_rfl) ?_; simp  [-List.getD_eq_getElem?_getD, -List.drop_one, ↓splitB_true, ↓splitB_false, go_sem]
    | refine AW_region (id := 3) Γg13_ok [] (by kernel_rfl) ?_; simp  [-List.getD_eq_getElem?_getD, -List.drop_one, ↓splitB_true, ↓splitB_false, go_sem]
    | refine AW_region (id := 4) Γg13_ok [] (by kernel_rfl) ?_; simp  [-List.getD_eq_getElem?_getD, -List.drop_one, ↓splitB_true, ↓splitB_false, go_sem, c14, ne_nil c14, Nat.sub_pos_of_lt c14]
    | (obtain ⟨p1, p2, p3⟩ := h1.at c14); refine AW_region (id := 5) Γg13_ok [] (by kernel_rfl) ?_; simp  [-List.getD_eq_getElem?_getD, -List.drop_one, ↓splitB_true, ↓splitB_false, go_sem, c14, ne_nil c14, Nat.sub_pos_of_lt c14, p1, p2, p3, ne_nil p3, Nat.sub_pos_of_lt p3, fill_len (f := cI) (sz := 1) [.int .i64 0] (xs := pickL xs ys) (k := k) (by omega), hd, (show k < ys.length + j by omega), (show k + 1 ≤ ys.length + j by omega), (show stSeg (fillC cI [.int .i64 0] 1 (pickL xs ys) k (List.replicate j D.any)) k [.int .i64 (nth xs (nth ys k).toNat)] = fillC cI [.int .i64 0] 1 (pickL xs ys) (k + 1) (List.replicate j D.any) by rw [← nth_pickL c14]; exact fill_cI (by omega))]
    | refine AW_region (id := 6) Γg13_ok [] (by kernel_rfl) ?_; simp  [-List.getD_eq_getElem?_getD, -List.drop_one, ↓splitB_true, ↓splitB_false, go_sem, wrapS (k := k) (by omega)]
    | ((obtain rfl : k = ys.length := by omega); refine AW_unmat 5 (b := b) (all := cat cI (pickL xs ys) ++ List.replicate j .any) rfl (by have := fill_all (f := cI) (sz := 1) (z := [.int .i64 0]) (pickL xs ys) (List.replicate j D.any); rw [hd] at this; simp [go_sem, this]) (by omega) (by simp [cat_length]; omega) (by simp [cat_length]; omega) ?_); refine AW_region (id := 7) Γg13_ok [] (by kernel_rfl) ?_; simp  [-List.getD_eq_getElem?_getD, -List.drop_one, ↓splitB_true, ↓splitB_false, go_sem, hd, (show (cat cI (pickL xs ys) ++ List.replicate j D.any).take ys.length = cat cI (pickL xs ys) from cat_take_app1c _ _ hd.symm)]
    | refine AW_condA (c := .tmp 14) ?_; simp [-List.getD_eq_getElem?_getD, -List.drop_one, ↓splitB_true, ↓splitB_false, go_sem]; try first | (refine ⟨?_, ?_⟩ <;> change AW _ _ _ _ _ _) | (refine ⟨fun c14 => ?_, fun c14 => ?_⟩ <;> (try simp [B_iff, B_not] at c14))
    | (refine AW_block (id := 0) (AW_loop (ι := Nat) (fun k : Nat => ⟨(upd (upd (upd (upd (upd (upd (fun _ => .any) 0 (li cI xs)) 1 (li cI ys)) 5 (.sl b 1 0 ys.length cp)) 11 (li cI ys)) 12 (.int .i64 ys.length)) 13 (.int .i64 k)), upd (fun _ => none) b (some (fillC cI [.int .i64 0] 1 (pickL xs ys) k (List.replicate j .any)))⟩) (fun k => k ≤ ys.length) (fun k => ys.length - k) (0) ?_ ?_ ?_); exact Nat.zero_le _; ((repeat' (first | exact sub_noneH (by assumption) | exact sub_none | refine sub_upd ?_ ?_ | refine sub_noneE ?_)) <;> simp [-List.getD_eq_getElem?_getD, -List.drop_one, ↓splitB_true, ↓splitB_false, go_sem, fill_zero]); rintro k hk)
    | (refine ⟨k + 1, by omega, by first | omega | (simp; done) | (simp; omega), ?_⟩; ((repeat' (first | exact sub_noneH (by assumption) | exact sub_none | refine sub_upd ?_ ?_ | refine sub_noneE ?_)) <;> simp [-List.getD_eq_getElem?_getD, -List.drop_one, ↓splitB_true, ↓splitB_false, go_sem, fill_zero]))
    | (refine AW_block ?_)
    | (refine AW_exit ?_; simp [-List.getD_eq_getElem?_getD, -List.drop_one, ↓splitB_true, ↓splitB_false, go_sem])
    | (refine AW_skip ?_; simp [-List.getD_eq_getElem?_getD, -List.drop_one, ↓splitB_true, ↓splitB_false, go_sem])
    | (refine AW_ret ?_; simp [-List.getD_eq_getElem?_getD, -List.drop_one, ↓splitB_true, ↓splitB_false, go_sem, Try.results111])
    | (intro hx; change AW _ _ _ _ _ _)
    | (refine ⟨?_, ?_⟩ <;> change AW _ _ _ _ _ _)
    | (intro hx; refine ⟨fun hs => ?_, fun hs => ?_⟩)
    | (refine ⟨fun hs => ?_, fun hs => ?_⟩)
    | (refine ⟨?_, fun hs => ?_⟩; change AW _ _ _ _ _ _)
    | (refine ⟨fun hs => ?_, ?_⟩; rotate_left; change AW _ _ _ _ _ _; rotate_left)))
noncomputable def picked_pureC : Con := .pure fun
  | [.list n_xs c_xs, .list n_ys c_ys] => ((Is cI n_xs c_xs) ∧ (Is cI n_ys c_ys) ∧ ((de cI c_ys).length ≤ 1048576) ∧ (Places (de cI c_xs).length (de cI c_ys)), fr 1 cI (pickL (de cI c_xs) (de cI c_ys)))
  | _ => (False, .any)
attribute [go_sem] picked_pureC
theorem picked_pureC_ok : ConOk Try.prog 111 picked_pureC := by
  refine ⟨callable Try.func111 (by decide) rfl, fun args h => ?_⟩
  revert h
  dsimp only
  split
  · intro h
    obtain ⟨⟨xs, rfl, rfl⟩, ⟨ys, rfl, rfl⟩, h0, h1⟩ := h
    try simp only [de_cat] at *
    exact ⟨picked_pure xs ys h0 h1, by simp [go_sem]⟩
  · intro h
    exact h.elim
noncomputable def Γg14 : FuncId → Con := ext Γg13 111 picked_pureC
attribute [go_sem] Γg14
theorem Γg14_ok : ∀ g, ConOk Try.prog g (Γg14 g) := ext_ok Γg13_ok picked_pureC_ok

theorem l8Pick_pure (xs : List Int) (ys : List Int) (h0 : ys.length ≤ 1048576) (h1 : Places xs.length ys) : Pure Try.prog 118 [li cI xs, li cI ys] (fr 1 cI (pickL xs ys)) := by
  refine Pure.of_walk Try.func118 rfl (by simp [Try.f118]) (by simp [-List.drop_one, go_sem]) fun B hK => ?_
  (repeat' (first
    | refine AW_seq ?_
    | refine AW_region (id := 0) Γg14_ok [] (by kernel_rfl) ?_; simp  [-List.getD_eq_getElem?_getD, -List.drop_one, ↓splitB_true, ↓splitB_false, go_sem]
    | refine AW_region (id := 1) Γg14_ok [] (by kernel_rfl) ?_; simp  [-List.getD_eq_getElem?_getD, -List.drop_one, ↓splitB_true, ↓splitB_false, go_sem]
    | refine AW_region (id := 2) Γg14_ok [] (by kernel_rfl) ?_; simp  [-List.getD_eq_getElem?_getD, -List.drop_one, ↓splitB_true, ↓splitB_false, go_sem]
    | refine AW_region (id := 3) Γg14_ok [] (by kernel_rfl) ?_; simp  [-List.getD_eq_getElem?_getD, -List.drop_one, ↓splitB_true, ↓splitB_false, go_sem]
    | (obtain ⟨p1, p2, p3⟩ := h1.at c11); refine AW_region (id := 5) Γg14_ok [] (by kernel_rfl) ?_; simp  [-List.getD_eq_getElem?_getD, -List.drop_one, ↓splitB_true, ↓splitB_false, go_sem, c11, ne_nil c11, Nat.sub_pos_of_lt c11, p1, p2, p3, ne_nil p3, Nat.sub_pos_of_lt p3, pickL_succ c11, (show i + 1 ≤ 9223372036854775807 by omega), (show 2 * (i + 1) * 8 ≤ 281474976710656 by omega)]
    | refine AW_region (id := 4) Γg14_ok [] (by kernel_rfl) ?_; simp  [-List.getD_eq_getElem?_getD, -List.drop_one, ↓splitB_true, ↓splitB_false, go_sem, wrapS (k := i) (by omega)]
    | ((obtain rfl : i = ys.length := by omega)); refine AW_region (id := 6) Γg14_ok [] (by kernel_rfl) ?_; simp  [-List.getD_eq_getElem?_getD, -List.drop_one, ↓splitB_true, ↓splitB_false, go_sem, pickL_len]
    | refine AW_condA (c := .tmp 11) ?_; simp [-List.getD_eq_getElem?_getD, -List.drop_one, ↓splitB_true, ↓splitB_false, go_sem]; try first | (refine ⟨?_, ?_⟩ <;> change AW _ _ _ _ _ _) | (refine ⟨fun c11 => ?_, fun c11 => ?_⟩ <;> (try simp [B_iff, B_not] at c11))
    | (refine AW_block (id := 0) (AW_loop (ι := Nat) (fun i : Nat => ⟨(upd (upd (upd (upd (fun _ => .any) 0 (li cI xs)) 1 (li cI ys)) 5 (.fr 1 i (cat cI (pickL xs (ys.take i))))) 6 (.int .i64 i)), fun _ => none⟩) (fun i => i ≤ ys.length) (fun i => ys.length - i) (0) ?_ ?_ ?_); exact Nat.zero_le _; ((repeat' (first | exact sub_noneH (by assumption) | exact sub_none | refine sub_upd ?_ ?_ | refine sub_noneE ?_)) <;> simp [-List.getD_eq_getElem?_getD, -List.drop_one, ↓splitB_true, ↓splitB_false, go_sem, pickL]); rintro i hi)
    | (refine ⟨i + 1, by omega, by first | omega | (simp; done) | (simp; omega), ?_⟩; ((repeat' (first | exact sub_noneH (by assumption) | exact sub_none | refine sub_upd ?_ ?_ | refine sub_noneE ?_)) <;> simp [-List.getD_eq_getElem?_getD, -List.drop_one, ↓splitB_true, ↓splitB_false, go_sem, pickL]))
    | (refine AW_block ?_)
    | (refine AW_exit ?_; simp [-List.getD_eq_getElem?_getD, -List.drop_one, ↓splitB_true, ↓splitB_false, go_sem])
    | (refine AW_skip ?_; simp [-List.getD_eq_getElem?_getD, -List.drop_one, ↓splitB_true, ↓splitB_false, go_sem])
    | (refine AW_ret ?_; simp [-List.getD_eq_getElem?_getD, -List.drop_one, ↓splitB_true, ↓splitB_false, go_sem, Try.results118])
    | (intro hx; change AW _ _ _ _ _ _)
    | (refine ⟨?_, ?_⟩ <;> change AW _ _ _ _ _ _)
    | (intro hx; refine ⟨fun hs => ?_, fun hs => ?_⟩)
    | (refine ⟨fun hs => ?_, fun hs => ?_⟩)
    | (refine ⟨?_, fun hs => ?_⟩; change AW _ _ _ _ _ _)
    | (refine ⟨fun hs => ?_, ?_⟩; rotate_left; change AW _ _ _ _ _ _; rotate_left)))
noncomputable def l8Pick_pureC : Con := .pure fun
  | [.list n_xs c_xs, .list n_ys c_ys] => ((Is cI n_xs c_xs) ∧ (Is cI n_ys c_ys) ∧ ((de cI c_ys).length ≤ 1048576) ∧ (Places (de cI c_xs).length (de cI c_ys)), fr 1 cI (pickL (de cI c_xs) (de cI c_ys)))
  | _ => (False, .any)
attribute [go_sem] l8Pick_pureC
theorem l8Pick_pureC_ok : ConOk Try.prog 118 l8Pick_pureC := by
  refine ⟨callable Try.func118 (by decide) rfl, fun args h => ?_⟩
  revert h
  dsimp only
  split
  · intro h
    obtain ⟨⟨xs, rfl, rfl⟩, ⟨ys, rfl, rfl⟩, h0, h1⟩ := h
    try simp only [de_cat] at *
    exact ⟨l8Pick_pure xs ys h0 h1, by simp [go_sem]⟩
  · intro h
    exact h.elim
noncomputable def Γg15 : FuncId → Con := ext Γg14 118 l8Pick_pureC
attribute [go_sem] Γg15
theorem Γg15_ok : ∀ g, ConOk Try.prog g (Γg15 g) := ext_ok Γg14_ok l8Pick_pureC_ok

/-- The blocks and the trace are valid. -/
def QtOk (a : List Ints2) (b : List (List Int)) (p s l : List Int) : Prop := (GraphOk a b ∧ PartOk p ∧ p.length = a.length) ∧ TraceOk a b s l
theorem qt_places {a : List Ints2} {b : List (List Int)} {p s l : List Int} (h : QtOk a b p s l) : Places p.length s ∧ Places p.length l := by
  obtain ⟨⟨hG, _, e⟩, hP, _⟩ := h
  have q : ∀ i, i < (s ++ l).length → 0 ≤ nth (s ++ l) i ∧ nth (s ++ l) i < a.length := fun i hi => ⟨(hP.2.2 i hi).1, (hP.2.2 i hi).2.1⟩
  rw [e]
  refine ⟨fun i hi => ?_, fun i hi => ?_⟩
  · have := q i (by rw [List.length_append]; omega)
    rw [nth_lt (by rw [List.length_append]; omega), List.getElem_append_left hi, ← nth_lt hi] at this
    exact this
  · have := q (s.length + i) (by rw [List.length_append]; omega)
    rw [nth_lt (by rw [List.length_append]; omega), List.getElem_append_right (by omega)] at this
    rw [nth_lt hi]
    simpa using this

set_option maxHeartbeats 1000000 in
theorem specQt_pure (a : List Ints2) (b : List (List Int)) (p : List Int) (s : List Int) (l : List Int) (h0 : s.length ≤ 1048576) (h1 : l.length ≤ 1048576) : Pure Try.prog 50 [.st [li cP a, li cL b], li cI p, .st [li cI s, li cI l]] (if B (QtOk a b p s l) = true then .tup [.st [fr 1 cI (pickL p s), fr 1 cI (pickL p l)], .bool true] else .tup [.st [.nil, .nil], .bool false]) := by
  refine Pure.of_walk Try.func50 rfl (by simp [Try.f50]) (by simp [-List.drop_one, go_sem]) fun B hK => ?_
  cases hq : Vm.B (GraphOk a b ∧ PartOk p ∧ p.length = a.length) <;> cases ht : Vm.B (TraceOk a b s l)
  all_goals (repeat' (first
    | refine AW_seq ?_
    | refine AW_region (id := 0) Γg15_ok [] (by kernel_rfl) ?_; simp  [-List.getD_eq_getElem?_getD, -List.drop_one, ↓splitB_true, ↓splitB_false, go_sem]; try (refine AW_data hK 3 ?_; simp [go_sem]; refine AW_data hK 5 ?_; simp [go_sem]; refine AW_matBox 6 rfl fun bb hbb => ?_)
    | refine AW_region (id := 1) Γg15_ok [12] (by kernel_rfl) ?_; simp  [-List.getD_eq_getElem?_getD, -List.drop_one, ↓splitB_true, ↓splitB_false, go_sem, hq, ht, h0, h1]; try (refine ⟨fun s1a => ?_, fun s1a => ?_⟩ <;> (try simp [B_iff, B_not] at s1a) <;> try (refine ⟨fun s1b => ?_, fun s1b => ?_⟩ <;> (try simp [B_iff, B_not] at s1b)))
    | refine AW_region (id := 2) Γg15_ok [] (by kernel_rfl) ?_; simp  [-List.getD_eq_getElem?_getD, -List.drop_one, ↓splitB_true, ↓splitB_false, go_sem]
    | (have hQ : QtOk a b p s l := (by rw [B_iff] at hq ht; exact ⟨hq, ht⟩); obtain ⟨y1, y2⟩ := qt_places hQ); refine AW_region_draw (id := 3) Γg15_ok mixed [] [1, 5] (by kernel_rfl) (by kernel_rfl) (by simp [-List.getD_eq_getElem?_getD, -List.drop_one, ↓splitB_true, ↓splitB_false, go_sem, y1, y2, h0, h1]) ?_; simp  [-List.getD_eq_getElem?_getD, -List.drop_one, ↓splitB_true, ↓splitB_false, go_sem, y1, y2, h0, h1]
    | refine AW_condA (c := .tmp 17) ?_; simp [-List.getD_eq_getElem?_getD, -List.drop_one, ↓splitB_true, ↓splitB_false, go_sem]; try first | (refine ⟨?_, ?_⟩ <;> change AW _ _ _ _ _ _) | (refine ⟨fun c17 => ?_, fun c17 => ?_⟩ <;> (try simp [B_iff, B_not] at c17))
    | (refine AW_block ?_)
    | (refine AW_exit ?_; simp [-List.getD_eq_getElem?_getD, -List.drop_one, ↓splitB_true, ↓splitB_false, go_sem])
    | (refine AW_skip ?_; simp [-List.getD_eq_getElem?_getD, -List.drop_one, ↓splitB_true, ↓splitB_false, go_sem])
    | (refine AW_ret ?_; simp [-List.getD_eq_getElem?_getD, -List.drop_one, ↓splitB_true, ↓splitB_false, go_sem, Try.results50])
    | (intro hx; change AW _ _ _ _ _ _)
    | (refine ⟨?_, ?_⟩ <;> change AW _ _ _ _ _ _)
    | (intro hx; refine ⟨fun hs => ?_, fun hs => ?_⟩)
    | (refine ⟨fun hs => ?_, fun hs => ?_⟩)
    | (refine ⟨?_, fun hs => ?_⟩; change AW _ _ _ _ _ _)
    | (refine ⟨fun hs => ?_, ?_⟩; rotate_left; change AW _ _ _ _ _ _; rotate_left)))
  all_goals (first
    | (intro h; have := B_yes h.1; rw [hq] at this; cases this; done)
    | (intro h; have := B_yes h.2; rw [ht] at this; cases this; done)
    | (rw [B_iff] at hq ht; exact ⟨hq, ht⟩)
    | (have e : Vm.B (QtOk a b p s l) = true := B_yes (by rw [B_iff] at hq ht; exact ⟨hq, ht⟩); simp [e]; done)
    | (have e : Vm.B (QtOk a b p s l) = false := B_no (fun h => by have := B_yes h.1; rw [hq] at this; cases this); simp [e]; done)
    | (have e : Vm.B (QtOk a b p s l) = false := B_no (fun h => by have := B_yes h.2; rw [ht] at this; cases this); simp [e]; done)
    | skip)
noncomputable def specQt_pureC : Con := .pure fun
  | [.st [.list n_a c_a, .list n_b c_b], .list n_p c_p, .st [.list n_s c_s, .list n_l c_l]] => ((Is cP n_a c_a) ∧ (Is cL n_b c_b) ∧ (Is cI n_p c_p) ∧ (Is cI n_s c_s) ∧ (Is cI n_l c_l) ∧ ((de cI c_s).length ≤ 1048576) ∧ ((de cI c_l).length ≤ 1048576), if B (QtOk (de cP c_a) (de cL c_b) (de cI c_p) (de cI c_s) (de cI c_l)) = true then .tup [.st [fr 1 cI (pickL (de cI c_p) (de cI c_s)), fr 1 cI (pickL (de cI c_p) (de cI c_l))], .bool true] else .tup [.st [.nil, .nil], .bool false])
  | _ => (False, .any)
attribute [go_sem] specQt_pureC
theorem specQt_pureC_ok : ConOk Try.prog 50 specQt_pureC := by
  refine ⟨callable Try.func50 (by decide) rfl, fun args h => ?_⟩
  revert h
  dsimp only
  split
  · intro h
    obtain ⟨⟨a, rfl, rfl⟩, ⟨b, rfl, rfl⟩, ⟨p, rfl, rfl⟩, ⟨s, rfl, rfl⟩, ⟨l, rfl, rfl⟩, h0, h1⟩ := h
    try simp only [de_cat] at *
    exact ⟨specQt_pure a b p s l h0 h1, by simp [go_sem]⟩
  · intro h
    exact h.elim
noncomputable def Γg16 : FuncId → Con := ext Γg15 50 specQt_pureC
attribute [go_sem] Γg16
theorem Γg16_ok : ∀ g, ConOk Try.prog g (Γg16 g) := ext_ok Γg15_ok specQt_pureC_ok

set_option maxHeartbeats 1000000 in
theorem implQt_pure (a : List Ints2) (b : List (List Int)) (p : List Int) (s : List Int) (l : List Int) (h0 : s.length ≤ 1048576) (h1 : l.length ≤ 1048576) : Pure Try.prog 52 [.st [li cP a, li cL b], li cI p, .st [li cI s, li cI l]] (if B (QtOk a b p s l) = true then .tup [.st [fr 1 cI (pickL p s), fr 1 cI (pickL p l)], .bool true] else .tup [.st [.nil, .nil], .bool false]) := by
  refine Pure.of_walk Try.func52 rfl (by simp [Try.f52]) (by simp [-List.drop_one, go_sem]) fun B hK => ?_
  cases hq : Vm.B (GraphOk a b ∧ PartOk p ∧ p.length = a.length) <;> cases ht : Vm.B (TraceOk a b s l)
  all_goals (repeat' (first
    | refine AW_seq ?_
    | refine AW_region (id := 0) Γg16_ok [] (by kernel_rfl) ?_; simp  [-List.getD_eq_getElem?_getD, -List.drop_one, ↓splitB_true, ↓splitB_false, go_sem]; try (refine AW_data hK 3 ?_; simp [go_sem]; refine AW_data hK 5 ?_; simp [go_sem]; refine AW_matBox 6 rfl fun bb hbb => ?_)
    | refine AW_region (id := 1) Γg16_ok [12] (by kernel_rfl) ?_; simp  [-List.getD_eq_getElem?_getD, -List.drop_one, ↓splitB_true, ↓splitB_false, go_sem, hq, ht, h0, h1]; try (refine ⟨fun s1a => ?_, fun s1a => ?_⟩ <;> (try simp [B_iff, B_not] at s1a) <;> try (refine ⟨fun s1b => ?_, fun s1b => ?_⟩ <;> (try simp [B_iff, B_not] at s1b)))
    | refine AW_region (id := 2) Γg16_ok [] (by kernel_rfl) ?_; simp  [-List.getD_eq_getElem?_getD, -List.drop_one, ↓splitB_true, ↓splitB_false, go_sem]
    | (have hQ : QtOk a b p s l := (by rw [B_iff] at hq ht; exact ⟨hq, ht⟩); obtain ⟨y1, y2⟩ := qt_places hQ); refine AW_region_draw (id := 3) Γg16_ok mixed [] [1, 5] (by kernel_rfl) (by kernel_rfl) (by simp [-List.getD_eq_getElem?_getD, -List.drop_one, ↓splitB_true, ↓splitB_false, go_sem, y1, y2, h0, h1]) ?_; simp  [-List.getD_eq_getElem?_getD, -List.drop_one, ↓splitB_true, ↓splitB_false, go_sem, y1, y2, h0, h1]
    | refine AW_condA (c := .tmp 17) ?_; simp [-List.getD_eq_getElem?_getD, -List.drop_one, ↓splitB_true, ↓splitB_false, go_sem]; try first | (refine ⟨?_, ?_⟩ <;> change AW _ _ _ _ _ _) | (refine ⟨fun c17 => ?_, fun c17 => ?_⟩ <;> (try simp [B_iff, B_not] at c17))
    | (refine AW_block ?_)
    | (refine AW_exit ?_; simp [-List.getD_eq_getElem?_getD, -List.drop_one, ↓splitB_true, ↓splitB_false, go_sem])
    | (refine AW_skip ?_; simp [-List.getD_eq_getElem?_getD, -List.drop_one, ↓splitB_true, ↓splitB_false, go_sem])
    | (refine AW_ret ?_; simp [-List.getD_eq_getElem?_getD, -List.drop_one, ↓splitB_true, ↓splitB_false, go_sem, Try.results52])
    | (intro hx; change AW _ _ _ _ _ _)
    | (refine ⟨?_, ?_⟩ <;> change AW _ _ _ _ _ _)
    | (intro hx; refine ⟨fun hs => ?_, fun hs => ?_⟩)
    | (refine ⟨fun hs => ?_, fun hs => ?_⟩)
    | (refine ⟨?_, fun hs => ?_⟩; change AW _ _ _ _ _ _)
    | (refine ⟨fun hs => ?_, ?_⟩; rotate_left; change AW _ _ _ _ _ _; rotate_left)))
  all_goals (first
    | (intro h; have := B_yes h.1; rw [hq] at this; cases this; done)
    | (intro h; have := B_yes h.2; rw [ht] at this; cases this; done)
    | (rw [B_iff] at hq ht; exact ⟨hq, ht⟩)
    | (have e : Vm.B (QtOk a b p s l) = true := B_yes (by rw [B_iff] at hq ht; exact ⟨hq, ht⟩); simp [e]; done)
    | (have e : Vm.B (QtOk a b p s l) = false := B_no (fun h => by have := B_yes h.1; rw [hq] at this; cases this); simp [e]; done)
    | (have e : Vm.B (QtOk a b p s l) = false := B_no (fun h => by have := B_yes h.2; rw [ht] at this; cases this); simp [e]; done)
    | skip)
noncomputable def implQt_pureC : Con := .pure fun
  | [.st [.list n_a c_a, .list n_b c_b], .list n_p c_p, .st [.list n_s c_s, .list n_l c_l]] => ((Is cP n_a c_a) ∧ (Is cL n_b c_b) ∧ (Is cI n_p c_p) ∧ (Is cI n_s c_s) ∧ (Is cI n_l c_l) ∧ ((de cI c_s).length ≤ 1048576) ∧ ((de cI c_l).length ≤ 1048576), if B (QtOk (de cP c_a) (de cL c_b) (de cI c_p) (de cI c_s) (de cI c_l)) = true then .tup [.st [fr 1 cI (pickL (de cI c_p) (de cI c_s)), fr 1 cI (pickL (de cI c_p) (de cI c_l))], .bool true] else .tup [.st [.nil, .nil], .bool false])
  | _ => (False, .any)
attribute [go_sem] implQt_pureC
theorem implQt_pureC_ok : ConOk Try.prog 52 implQt_pureC := by
  refine ⟨callable Try.func52 (by decide) rfl, fun args h => ?_⟩
  revert h
  dsimp only
  split
  · intro h
    obtain ⟨⟨a, rfl, rfl⟩, ⟨b, rfl, rfl⟩, ⟨p, rfl, rfl⟩, ⟨s, rfl, rfl⟩, ⟨l, rfl, rfl⟩, h0, h1⟩ := h
    try simp only [de_cat] at *
    exact ⟨implQt_pure a b p s l h0 h1, by simp [go_sem]⟩
  · intro h
    exact h.elim
noncomputable def Γg17 : FuncId → Con := ext Γg16 52 implQt_pureC
attribute [go_sem] Γg17
theorem Γg17_ok : ∀ g, ConOk Try.prog g (Γg17 g) := ext_ok Γg16_ok implQt_pureC_ok
end Go.Proofs.Ytljncoikoffijaa.Vm

