/-
  UniteAutomata, both ways. No conditions.
-/
import Derived.Test.YtoklpofekcclhaaU2
import Derived.Test.YtoklpofekcclhaaK3
namespace Go.Proofs.Ytoklpofekcclhaa.Vm
open Go
set_option linter.unusedVariables false
set_option linter.unusedSimpArgs false
set_option maxRecDepth 200000

def uIk (a a' : List Int) (n k : Nat) : List Int := a ++ (a'.take k).map (fun x => x + (n : Int))
def uI (a a' : List Int) (n : Nat) : List Int := uIk a a' n a'.length
def uE (n : Nat) (e : Tr4) : Tr4 := (e.1 + n, e.2.1, e.2.2.1, e.2.2.2 + n)
def uTk (c c' : List Tr4) (n k : Nat) : List Tr4 := c ++ (c'.take k).map (uE n)
def uT (c c' : List Tr4) (n : Nat) : List Tr4 := uTk c c' n c'.length
theorem uI_len (a a' : List Int) (n : Nat) : (uI a a' n).length = a.length + a'.length := by simp [uI, uIk]
theorem uT_len (c c' : List Tr4) (n : Nat) : (uT c c' n).length = c.length + c'.length := by simp [uT, uTk]
theorem uB_len (b b' : List Bool) : (b ++ b').length = b.length + b'.length := by simp
theorem uIk_zero (a a' : List Int) (n : Nat) : uIk a a' n 0 = a := by simp [uIk]
theorem uTk_zero (c c' : List Tr4) (n : Nat) : uTk c c' n 0 = c := by simp [uTk]
theorem uIk_cat {a a' : List Int} {n k : Nat} (h : k < a'.length) : cat cI (uIk a a' n k) ++ [D.int .i64 (nth a' k + (n : Int))] = cat cI (uIk a a' n (k + 1)) := by
  rw [snoc_cI, uIk, uIk, List.take_succ_eq_append_getElem h, nth_lt h]; simp only [List.map_append, List.map_cons, List.map_nil, List.append_assoc]
theorem uTk_cat {c c' : List Tr4} {n k : Nat} (h : k < c'.length) : cat cT (uTk c c' n k) ++ [D.int .i64 ((nth c' k).1 + (n : Int)), D.int .i64 (nth c' k).2.1, D.int .i64 (nth c' k).2.2.1, D.int .i64 ((nth c' k).2.2.2 + (n : Int))] = cat cT (uTk c c' n (k + 1)) := by
  have : [D.int .i64 ((nth c' k).1 + (n : Int)), D.int .i64 (nth c' k).2.1, D.int .i64 (nth c' k).2.2.1, D.int .i64 ((nth c' k).2.2.2 + (n : Int))] = cat cT [uE n (nth c' k)] := rfl
  rw [this, ← cat_append, uTk, uTk, List.take_succ_eq_append_getElem h, nth_lt h]; simp only [List.map_append, List.map_cons, List.map_nil, List.append_assoc]
theorem memT {xs : List Tr4} {e : Tr4} (h : e ∈ xs) : ∃ i, i < xs.length ∧ nth xs i = e := by
  obtain ⟨i, hi, e2⟩ := List.getElem_of_mem h
  exact ⟨i, hi, by rw [nth_lt hi, e2]⟩
theorem uT_small {c c' : List Tr4} (h : AllSmall c) (h' : AllSmall c') (n : Nat) : AllSmall (uT c c' n) := by
  have hm : ∀ e, e ∈ uT c c' n → e.2.2.1 ≤ 9223372036854775807 := by
    intro e he
    unfold uT uTk at he
    rw [List.take_length, List.mem_append, List.mem_map] at he
    rcases he with q | ⟨d, q, rfl⟩
    · obtain ⟨i, hi, rfl⟩ := memT q
      exact h i hi
    · obtain ⟨i, hi, rfl⟩ := memT q
      exact h' i hi
  exact fun i hi => hm _ (nth_mem hi)
theorem cat_take_appT (xs : List Tr4) (ys : List D) {n : Nat} (h : n = xs.length) : (cat cT xs ++ ys).take (n * 4) = cat cT xs := by subst h; exact cat_take_app_cT xs ys
theorem mk44u (x y z u : D) : makeD [x, y, z, u] 4 = [x, y, z, u] := rfl
theorem ss44u (x y z u x' y' z' u' : D) : stSeg [x, y, z, u] 0 [x', y', z', u'] = [x', y', z', u'] := rfl
/-- What may be united. -/
def UnOk (a : List Int) (b : List Bool) (c : List Tr4) (a' : List Int) (b' : List Bool) (c' : List Tr4) : Prop := AutOk a b.length c ∧ AutOk a' b'.length c' ∧ AutOk (uI a a' b.length) (b.length + b'.length) (uT c c' b.length)
theorem unOk_no {a : List Int} {b : List Bool} {c : List Tr4} {a' : List Int} {b' : List Bool} {c' : List Tr4} (h : B (AutOk a b.length c) = false ∨ B (AutOk a' b'.length c') = false ∨ B (AutOk (uI a a' b.length) (b.length + b'.length) (uT c c' b.length)) = false) : B (UnOk a b c a' b' c') = false := by
  apply B_no
  rintro ⟨h1, h2, h3⟩
  rw [B_yes h1, B_yes h2, B_yes h3] at h
  simp at h
theorem unOk_yes {a : List Int} {b : List Bool} {c : List Tr4} {a' : List Int} {b' : List Bool} {c' : List Tr4} (h1 : B (AutOk a b.length c) = true) (h2 : B (AutOk a' b'.length c') = true) (h3 : B (AutOk (uI a a' b.length) (b.length + b'.length) (uT c c' b.length)) = true) : B (UnOk a b c a' b' c') = true := by
  rw [B_iff] at h1 h2 h3 ⊢
  exact ⟨h1, h2, h3⟩
set_option maxHeartbeats 4000000 in

theorem implUn_pure (a : List Int) (b : List Bool) (c : List Tr4) (a' : List Int) (b' : List Bool) (c' : List Tr4) (hS : AllSmall c) (hS' : AllSmall c') : Pure Try.prog 22 [.st [li cI a, li cB b, li cT c], .st [li cI a', li cB b', li cT c']] (.tup [if B (UnOk a b c a' b' c') = true then .st [fr 1 cI (uI a a' b.length), fr 1 cB (b ++ b'), fr 4 cT (uT c c' b.length)] else .st [.nil, .nil, .nil], .bool (B (UnOk a b c a' b' c'))]) := by
  refine Pure.of_walk Try.func22 rfl (by simp [Try.f22]) (by simp [-List.drop_one, go_sem]) fun B hK => ?_
  cases hg : Vm.B (AutOk a b.length c) <;> cases hg2 : Vm.B (AutOk a' b'.length c') <;> cases hU : Vm.B (AutOk (uI a a' b.length) (b.length + b'.length) (uT c c' b.length))
  all_goals (repeat' (first
    | refine AW_seq ?_
    | refine AW_region (id := 0) Γu11_ok [] (by kernel_rfl) ?_; simp  [-List.getD_eq_getElem?_getD, -List.drop_one, ↓splitB_true, ↓splitB_false, go_sem]; try ((refine AW_data hK 2 ?_); (refine AW_data hK 3 ?_); simp [go_sem])
    | refine AW_region (id := 1) Γu11_ok [15] (by kernel_rfl) ?_; simp  [-List.getD_eq_getElem?_getD, -List.drop_one, ↓splitB_true, ↓splitB_false, go_sem, hg, hg2, hS, hS']; try (refine ⟨fun s1a => ?_, fun s1a => ?_⟩ <;> (try simp [B_iff, B_not] at s1a) <;> try (refine ⟨fun s1b => ?_, fun s1b => ?_⟩ <;> (try simp [B_iff, B_not] at s1b)))
    | refine AW_region (id := 2) Γu11_ok [] (by kernel_rfl) ?_; simp  [-List.getD_eq_getElem?_getD, -List.drop_one, ↓splitB_true, ↓splitB_false, go_sem]
    | ((have hA : AutOk a b.length c := (by rw [B_iff] at hg; exact hg)); (have hA' : AutOk a' b'.length c' := (by rw [B_iff] at hg2; exact hg2)); (obtain ⟨n1, n2, n3, n4⟩ := hA.sizes); (obtain ⟨m1, m2, m3, m4⟩ := hA'.sizes); (have hr := hA.rng); (have hr' := hA'.rng); (have hSu := uT_small hS hS' b.length); (have hst' := hA'.starts (N := 64) m2)); refine AW_region (id := 3) Γu11_ok [] (by kernel_rfl) ?_; simp  [-List.getD_eq_getElem?_getD, -List.drop_one, ↓splitB_true, ↓splitB_false, go_sem]
    | refine AW_region (id := 4) Γu11_ok [] (by kernel_rfl) ?_; simp  [-List.getD_eq_getElem?_getD, -List.drop_one, ↓splitB_true, ↓splitB_false, go_sem, (show a.length ≤ 1048576 by omega), (show b.length ≤ 1048576 by omega), (show c.length ≤ 1048576 by omega)]; try ((refine AW_matBox 7 rfl fun pb h_pb => ?_); (clear h_pb); (refine AW_gen (fun H1 => H1 pb = some [.fr 1 a.length (cat cI (uIk a a' b.length 0)), .fr 1 b.length (cat cB b), .fr 4 c.length (cat cT c)]) (by simp [upd, fr, uIk_zero]) fun H1 w1 => ?_))
    | refine AW_region (id := 5) Γu11_ok [] (by kernel_rfl) ?_; simp  [-List.getD_eq_getElem?_getD, -List.drop_one, ↓splitB_true, ↓splitB_false, go_sem]
    | refine AW_region (id := 6) Γu11_ok [] (by kernel_rfl) ?_; simp  [-List.getD_eq_getElem?_getD, -List.drop_one, ↓splitB_true, ↓splitB_false, go_sem]
    | refine AW_region (id := 7) Γu11_ok [] (by kernel_rfl) ?_; simp  [-List.getD_eq_getElem?_getD, -List.drop_one, ↓splitB_true, ↓splitB_false, go_sem, c30, ne_nil c30, Nat.sub_pos_of_lt c30]
    | ((obtain ⟨v0, v1⟩ := hst'.1 (nth a' q.1) (nth_mem c30)); (have hcat := uIk_cat (a := a) (n := b.length) c30)); refine AW_region (id := 8) Γu11_ok [] (by kernel_rfl) ?_; simp  [-List.getD_eq_getElem?_getD, -List.drop_one, ↓splitB_true, ↓splitB_false, go_sem, g2, c30, ne_nil c30, Nat.sub_pos_of_lt c30, hcat, wrap_in (x := nth a' q.1 + (b.length : Int)) (by omega) (by omega), (show a.length + q.1 ≤ 9223372036854775806 by omega), (show 2 * (a.length + q.1 + 1) * 8 ≤ 281474976710656 by omega), (show a.length + q.1 + 1 ≤ 9223372036854775807 by omega)]; try ((refine AW_gen (fun H1 => H1 pb = some [.fr 1 (a.length + (q.1 + 1)) (cat cI (uIk a a' b.length (q.1 + 1))), .fr 1 b.length (cat cB b), .fr 4 c.length (cat cT c)]) (by simp [upd, Nat.add_assoc]) fun H9 t5 => ?_))
    | refine AW_region (id := 9) Γu11_ok [] (by kernel_rfl) ?_; simp  [-List.getD_eq_getElem?_getD, -List.drop_one, ↓splitB_true, ↓splitB_false, go_sem, wrapS (k := q.1) (by omega)]
    | ((obtain ⟨kx, H2⟩ := q); (dsimp only at *); (obtain rfl : kx = a'.length := by omega)); refine AW_region (id := 10) Γu11_ok [] (by kernel_rfl) ?_; simp  [-List.getD_eq_getElem?_getD, -List.drop_one, ↓splitB_true, ↓splitB_false, go_sem, g2, (show b.length + b'.length ≤ 9223372036854775807 by omega), (show 2 * (b.length + b'.length) * 1 ≤ 281474976710656 by omega), (show 2 * (b.length + b'.length) ≤ 281474976710656 by omega), (cat_append (f := cB) b b').symm]; try ((refine AW_gen (fun H1 => H1 pb = some [.fr 1 (a.length + a'.length) (cat cI (uI a a' b.length)), .fr 1 (b.length + b'.length) (cat cB (b ++ b')), .fr 4 (c.length + 0) (cat cT (uTk c c' b.length 0))]) (by simp [upd, uTk_zero, uI]) fun H3 w3 => ?_))
    | refine AW_region (id := 11) Γu11_ok [] (by kernel_rfl) ?_; simp  [-List.getD_eq_getElem?_getD, -List.drop_one, ↓splitB_true, ↓splitB_false, go_sem]
    | refine AW_region (id := 12) Γu11_ok [] (by kernel_rfl) ?_; simp  [-List.getD_eq_getElem?_getD, -List.drop_one, ↓splitB_true, ↓splitB_false, go_sem]
    | refine AW_region (id := 13) Γu11_ok [] (by kernel_rfl) ?_; simp  [-List.getD_eq_getElem?_getD, -List.drop_one, ↓splitB_true, ↓splitB_false, go_sem, c52, ne_nil c52, Nat.sub_pos_of_lt c52]; try ((refine AW_data hK 11 ?_); (simp [go_sem]))
    | ((obtain ⟨⟨v0, v1⟩, v2, v3⟩ := hr' q.1 c52); (have hcat := uTk_cat (c := c) (n := b.length) c52)); refine AW_region (id := 14) Γu11_ok [] (by kernel_rfl) ?_; simp  [-List.getD_eq_getElem?_getD, -List.drop_one, ↓splitB_true, ↓splitB_false, go_sem, g2', hcat, mk44u, ss44u, wrap_in (x := (nth c' q.1).1 + (b.length : Int)) (by omega) (by omega), wrap_in (x := (nth c' q.1).2.2.2 + (b.length : Int)) (by omega) (by omega), (show c.length + q.1 ≤ 9223372036854775806 by omega), (show 2 * (c.length + q.1 + 1) * 32 ≤ 281474976710656 by omega), (show c.length + q.1 + 1 ≤ 9223372036854775807 by omega)]; try ((refine AW_gen (fun H1 => H1 pb = some [.fr 1 (a.length + a'.length) (cat cI (uI a a' b.length)), .fr 1 (b.length + b'.length) (cat cB (b ++ b')), .fr 4 (c.length + (q.1 + 1)) (cat cT (uTk c c' b.length (q.1 + 1)))]) (by simp [upd, Nat.add_assoc]) fun H9 t5 => ?_))
    | refine AW_region (id := 15) Γu11_ok [] (by kernel_rfl) ?_; simp  [-List.getD_eq_getElem?_getD, -List.drop_one, ↓splitB_true, ↓splitB_false, go_sem, wrapS (k := q.1) (by omega)]
    | ((obtain ⟨kx, H4⟩ := q); (dsimp only at *); (obtain rfl : kx = c'.length := by omega); (have w4 : H4 pb = some [.fr 1 (a.length + a'.length) (cat cI (uI a a' b.length)), .fr 1 (b.length + b'.length) (cat cB (b ++ b')), .fr 4 (c.length + c'.length) (cat cT (uT c c' b.length))] := g2'); (refine AW_matCell pb 0 (all := [.fr 1 (a.length + a'.length) (cat cI (uI a a' b.length)), .fr 1 (b.length + b'.length) (cat cB (b ++ b')), .fr 4 (c.length + c'.length) (cat cT (uT c c' b.length))]) (by simp [upd, w4]) rfl fun x cx jx h_x d_x e_x => ?_); (dsimp only at h_x); (have n_x_pb : ¬ x = pb := (by rintro rfl; simp [upd, w4] at h_x)); (refine AW_matCell pb 1 (all := [.sl x 1 0 (a.length + a'.length) cx, .fr 1 (b.length + b'.length) (cat cB (b ++ b')), .fr 4 (c.length + c'.length) (cat cT (uT c c' b.length))]) (by simp [upd, w4, n_x_pb, Ne.symm n_x_pb]) rfl fun y cy jy h_y d_y e_y => ?_); (dsimp only at h_y); (have n_y_pb : ¬ y = pb := (by rintro rfl; simp [upd, w4, n_x_pb, Ne.symm n_x_pb] at h_y)); (have n_y_x : ¬ y = x := (by rintro rfl; simp [upd, w4, n_x_pb, Ne.symm n_x_pb] at h_y)); (refine AW_matCell pb 2 (all := [.sl x 1 0 (a.length + a'.length) cx, .sl y 1 0 (b.length + b'.length) cy, .fr 4 (c.length + c'.length) (cat cT (uT c c' b.length))]) (by simp [upd, w4, n_x_pb, Ne.symm n_x_pb, n_y_pb, Ne.symm n_y_pb, n_y_x, Ne.symm n_y_x]) rfl fun z cz jz h_z d_z e_z => ?_); (dsimp only at h_z); (have n_z_pb : ¬ z = pb := (by rintro rfl; simp [upd, w4, n_x_pb, Ne.symm n_x_pb, n_y_pb, Ne.symm n_y_pb, n_y_x, Ne.symm n_y_x] at h_z)); (have n_z_x : ¬ z = x := (by rintro rfl; simp [upd, w4, n_x_pb, Ne.symm n_x_pb, n_y_pb, Ne.symm n_y_pb, n_y_x, Ne.symm n_y_x] at h_z)); (have n_z_y : ¬ z = y := (by rintro rfl; simp [upd, w4, n_x_pb, Ne.symm n_x_pb, n_y_pb, Ne.symm n_y_pb, n_y_x, Ne.symm n_y_x] at h_z)); (clear h_x h_y h_z); (refine AW_gen (fun H5 => H5 pb = some [.sl x 1 0 (a.length + a'.length) cx, .sl y 1 0 (b.length + b'.length) cy, .sl z 4 0 (c.length + c'.length) cz] ∧ H5 x = some (cat cI (uI a a' b.length) ++ List.replicate jx D.any) ∧ H5 y = some (cat cB (b ++ b') ++ List.replicate jy D.any) ∧ H5 z = some (cat cT (uT c c' b.length) ++ List.replicate jz D.any)) ⟨by simp [upd, n_x_pb, Ne.symm n_x_pb, n_y_pb, Ne.symm n_y_pb, n_z_pb, Ne.symm n_z_pb, n_y_x, Ne.symm n_y_x, n_z_x, Ne.symm n_z_x, n_z_y, Ne.symm n_z_y], by simp [upd, n_x_pb, Ne.symm n_x_pb, n_y_pb, Ne.symm n_y_pb, n_z_pb, Ne.symm n_z_pb, n_y_x, Ne.symm n_y_x, n_z_x, Ne.symm n_z_x, n_z_y, Ne.symm n_z_y], by simp [upd, n_x_pb, Ne.symm n_x_pb, n_y_pb, Ne.symm n_y_pb, n_z_pb, Ne.symm n_z_pb, n_y_x, Ne.symm n_y_x, n_z_x, Ne.symm n_z_x, n_z_y, Ne.symm n_z_y], by simp [upd, n_x_pb, Ne.symm n_x_pb, n_y_pb, Ne.symm n_y_pb, n_z_pb, Ne.symm n_z_pb, n_y_x, Ne.symm n_y_x, n_z_x, Ne.symm n_z_x, n_z_y, Ne.symm n_z_y]⟩ fun H5 ⟨w0, wx, wy, wz⟩ => ?_)); refine AW_region (id := 16) Γu11_ok [] (by kernel_rfl) ?_; simp  [-List.getD_eq_getElem?_getD, -List.drop_one, ↓splitB_true, ↓splitB_false, go_sem, w0, wx, wy, wz, n_x_pb, Ne.symm n_x_pb, n_y_pb, Ne.symm n_y_pb, n_z_pb, Ne.symm n_z_pb, n_y_x, Ne.symm n_y_x, n_z_x, Ne.symm n_z_x, n_z_y, Ne.symm n_z_y, uI_len, uT_len, uB_len, cat_take_app1c (f := cI) (uI a a' b.length) (List.replicate jx D.any) (n := a.length + a'.length) (uI_len ..).symm, cat_take_app1c (f := cB) (b ++ b') (List.replicate jy D.any) (n := b.length + b'.length) (by simp), cat_take_appT (uT c c' b.length) (List.replicate jz D.any) (n := c.length + c'.length) (uT_len ..).symm, hU, hSu, (show a.length + a'.length ≤ a.length + a'.length + jx by omega)]
    | refine AW_region (id := 17) Γu11_ok [] (by kernel_rfl) ?_; simp  [-List.getD_eq_getElem?_getD, -List.drop_one, ↓splitB_true, ↓splitB_false, go_sem]
    | refine AW_region (id := 18) Γu11_ok [] (by kernel_rfl) ?_; simp  [-List.getD_eq_getElem?_getD, -List.drop_one, ↓splitB_true, ↓splitB_false, go_sem, w0, wx, wy, wz, n_x_pb, Ne.symm n_x_pb, n_y_pb, Ne.symm n_y_pb, n_z_pb, Ne.symm n_z_pb, n_y_x, Ne.symm n_y_x, n_z_x, Ne.symm n_z_x, n_z_y, Ne.symm n_z_y, uI_len, uT_len, uB_len, cat_take_app1c (f := cI) (uI a a' b.length) (List.replicate jx D.any) (n := a.length + a'.length) (uI_len ..).symm, cat_take_app1c (f := cB) (b ++ b') (List.replicate jy D.any) (n := b.length + b'.length) (by simp), cat_take_appT (uT c c' b.length) (List.replicate jz D.any) (n := c.length + c'.length) (uT_len ..).symm, hU, hSu, (show a.length + a'.length ≤ a.length + a'.length + jx by omega), (show a.length + a'.length ≤ 1048576 by omega), (show b.length + b'.length ≤ 1048576 by omega), (show c.length + c'.length ≤ 1048576 by omega)]
    | refine AW_condA (c := .tmp 19) ?_; simp [-List.getD_eq_getElem?_getD, -List.drop_one, ↓splitB_true, ↓splitB_false, go_sem]; try first | (refine ⟨?_, ?_⟩ <;> change AW _ _ _ _ _ _) | (refine ⟨fun c19 => ?_, fun c19 => ?_⟩ <;> (try simp [B_iff, B_not] at c19))
    | refine AW_condA (c := .tmp 30) ?_; simp [-List.getD_eq_getElem?_getD, -List.drop_one, ↓splitB_true, ↓splitB_false, go_sem]; try first | (refine ⟨?_, ?_⟩ <;> change AW _ _ _ _ _ _) | (refine ⟨fun c30 => ?_, fun c30 => ?_⟩ <;> (try simp [B_iff, B_not] at c30))
    | refine AW_condA (c := .tmp 52) ?_; simp [-List.getD_eq_getElem?_getD, -List.drop_one, ↓splitB_true, ↓splitB_false, go_sem]; try first | (refine ⟨?_, ?_⟩ <;> change AW _ _ _ _ _ _) | (refine ⟨fun c52 => ?_, fun c52 => ?_⟩ <;> (try simp [B_iff, B_not] at c52))
    | refine AW_condA (c := .tmp 76) ?_; simp [-List.getD_eq_getElem?_getD, -List.drop_one, ↓splitB_true, ↓splitB_false, go_sem]; try first | (refine ⟨?_, ?_⟩ <;> change AW _ _ _ _ _ _) | (refine ⟨fun c76 => ?_, fun c76 => ?_⟩ <;> (try simp [B_iff, B_not] at c76))
    | (refine AW_block (id := 0) (AW_loop (ι := Nat × Hp) (fun q : Nat × Hp => ⟨(upd (upd (upd (upd (upd (upd (upd (upd (fun _ => .any) 2 (.pd [li cI a, li cB b, li cT c])) 3 (.pd [li cI a', li cB b', li cT c'])) 4 (.box [.nil, .nil, .nil])) 6 (.int .i64 b.length)) 7 (.ptr pb 0)) 27 (li cI a')) 28 (.int .i64 a'.length)) 29 (.int .i64 q.1)), q.2⟩) (fun q => q.1 ≤ a'.length ∧ q.2 pb = some [.fr 1 (a.length + q.1) (cat cI (uIk a a' b.length q.1)), .fr 1 b.length (cat cB b), .fr 4 c.length (cat cT c)]) (fun q => a'.length - q.1) ((0, H1)) ?_ ?_ ?_); exact ⟨Nat.zero_le _, w1⟩; ((repeat' (first | exact sub_noneH (by assumption) | exact sub_none | refine sub_upd ?_ ?_ | refine sub_noneE ?_)) <;> simp [-List.getD_eq_getElem?_getD, -List.drop_one, ↓splitB_true, ↓splitB_false, go_sem]); rintro q ⟨g1, g2⟩)
    | (refine ⟨(q.1 + 1, H9), ⟨by dsimp only; omega, t5⟩, by first | omega | (simp; done) | (simp; omega), ?_⟩; ((repeat' (first | exact sub_noneH (by assumption) | exact sub_none | refine sub_upd ?_ ?_ | refine sub_noneE ?_)) <;> simp [-List.getD_eq_getElem?_getD, -List.drop_one, ↓splitB_true, ↓splitB_false, go_sem]))
    | (refine AW_block (id := 2) (AW_loop (ι := Nat × Hp) (fun q : Nat × Hp => ⟨(upd (upd (upd (upd (upd (upd (upd (upd (fun _ => .any) 2 (.pd [li cI a, li cB b, li cT c])) 3 (.pd [li cI a', li cB b', li cT c'])) 4 (.box [.nil, .nil, .nil])) 6 (.int .i64 b.length)) 7 (.ptr pb 0)) 49 (li cT c')) 50 (.int .i64 c'.length)) 51 (.int .i64 q.1)), q.2⟩) (fun q => q.1 ≤ c'.length ∧ q.2 pb = some [.fr 1 (a.length + a'.length) (cat cI (uI a a' b.length)), .fr 1 (b.length + b'.length) (cat cB (b ++ b')), .fr 4 (c.length + q.1) (cat cT (uTk c c' b.length q.1))]) (fun q => c'.length - q.1) ((0, H3)) ?_ ?_ ?_); exact ⟨Nat.zero_le _, w3⟩; ((repeat' (first | exact sub_noneH (by assumption) | exact sub_none | refine sub_upd ?_ ?_ | refine sub_noneE ?_)) <;> simp [-List.getD_eq_getElem?_getD, -List.drop_one, ↓splitB_true, ↓splitB_false, go_sem]); rintro q ⟨g1', g2'⟩)
    | (refine ⟨(q.1 + 1, H9), ⟨by dsimp only; omega, t5⟩, by first | omega | (simp; done) | (simp; omega), ?_⟩; ((repeat' (first | exact sub_noneH (by assumption) | exact sub_none | refine sub_upd ?_ ?_ | refine sub_noneE ?_)) <;> simp [-List.getD_eq_getElem?_getD, -List.drop_one, ↓splitB_true, ↓splitB_false, go_sem]))
    | (refine AW_block ?_)
    | (refine AW_exit ?_; simp [-List.getD_eq_getElem?_getD, -List.drop_one, ↓splitB_true, ↓splitB_false, go_sem])
    | (refine AW_skip ?_; simp [-List.getD_eq_getElem?_getD, -List.drop_one, ↓splitB_true, ↓splitB_false, go_sem])
    | (refine AW_ret ?_; simp [-List.getD_eq_getElem?_getD, -List.drop_one, ↓splitB_true, ↓splitB_false, go_sem, Try.results22])
    | (intro hx; change AW _ _ _ _ _ _)
    | (refine ⟨?_, ?_⟩ <;> change AW _ _ _ _ _ _)
    | (intro hx; refine ⟨fun hs => ?_, fun hs => ?_⟩)
    | (refine ⟨fun hs => ?_, fun hs => ?_⟩)
    | (refine ⟨?_, fun hs => ?_⟩; change AW _ _ _ _ _ _)
    | (refine ⟨fun hs => ?_, ?_⟩; rotate_left; change AW _ _ _ _ _ _; rotate_left)))
  all_goals (first
    | (rw [← B_not]; exact unOk_no (Or.inl hg))
    | (rw [← B_not]; exact unOk_no (Or.inr (Or.inl hg2)))
    | (rw [← B_not]; exact unOk_no (Or.inr (Or.inr hU)))
    | (have hz := unOk_yes hg hg2 hU; rw [B_iff] at hz; exact hz)
    | (rw [unOk_no (Or.inl hg)]; simp; done)
    | (rw [unOk_no (Or.inr (Or.inl hg2))]; simp; done)
    | (rw [unOk_no (Or.inr (Or.inr hU))]; simp; done)
    | (rw [unOk_yes hg hg2 hU]; simp [fr, uI_len, uT_len]; done)
    | skip)
noncomputable def implUn_pureC : Con := .pure fun
  | [.st [.list n_a c_a, .list n_b c_b, .list n_c c_c], .st [.list n_a' c_a', .list n_b' c_b', .list n_c' c_c']] => ((Is cI n_a c_a) ∧ (Is cB n_b c_b) ∧ (Is cT n_c c_c) ∧ (Is cI n_a' c_a') ∧ (Is cB n_b' c_b') ∧ (Is cT n_c' c_c') ∧ (AllSmall (de cT c_c)) ∧ (AllSmall (de cT c_c')), .tup [if B (UnOk (de cI c_a) (de cB c_b) (de cT c_c) (de cI c_a') (de cB c_b') (de cT c_c')) = true then .st [fr 1 cI (uI (de cI c_a) (de cI c_a') (de cB c_b).length), fr 1 cB ((de cB c_b) ++ (de cB c_b')), fr 4 cT (uT (de cT c_c) (de cT c_c') (de cB c_b).length)] else .st [.nil, .nil, .nil], .bool (B (UnOk (de cI c_a) (de cB c_b) (de cT c_c) (de cI c_a') (de cB c_b') (de cT c_c')))])
  | _ => (False, .any)
attribute [go_sem] implUn_pureC
theorem implUn_pureC_ok : ConOk Try.prog 22 implUn_pureC := by
  refine ⟨callable Try.func22 (by decide) rfl, fun args h => ?_⟩
  revert h
  dsimp only
  split
  · intro h
    obtain ⟨⟨a, rfl, rfl⟩, ⟨b, rfl, rfl⟩, ⟨c, rfl, rfl⟩, ⟨a', rfl, rfl⟩, ⟨b', rfl, rfl⟩, ⟨c', rfl, rfl⟩, hS, hS'⟩ := h
    try simp only [de_cat] at *
    exact ⟨implUn_pure a b c a' b' c' hS hS', by simp [go_sem]⟩
  · intro h
    exact h.elim
noncomputable def Γu12 : FuncId → Con := ext Γu11 22 implUn_pureC
attribute [go_sem] Γu12
theorem Γu12_ok : ∀ g, ConOk Try.prog g (Γu12 g) := ext_ok Γu11_ok implUn_pureC_ok

end Go.Proofs.Ytoklpofekcclhaa.Vm

