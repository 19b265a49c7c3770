/-
  Lassos drawn. No conditions.
-/
import Derived.Test.YtlbbhkpjjciaiaaD1
namespace Go.Proofs.Ytlbbhkpjjciaiaa.Vm
open Go
set_option linter.unusedVariables false
set_option linter.unusedSimpArgs false
set_option maxRecDepth 200000

noncomputable def openC : Con := .gen fun args H => match args with
  | [.list n cs] => (Is cY n cs, .box [li cY (cut2000 (de cY cs)), .int .i64 0], H)
  | _ => (False, .any, H)
attribute [go_sem] openC
theorem openC_ok : ConOk Try.prog 52 openC := by
  refine ⟨callable Try.func52 (by decide) rfl, fun args H h => ?_⟩
  revert h
  dsimp only
  split
  · rintro ⟨xs, rfl, rfl⟩
    rw [de_cat]
    exact open_spec xs H
  · intro h
    exact h.elim
noncomputable def Γs38 : FuncId → Con := ext Γs37 52 openC
attribute [go_sem] Γs38
theorem Γs38_ok : ∀ g, ConOk Try.prog g (Γs38 g) := ext_ok Γs37_ok openC_ok

@[go_sem] theorem makeD_3 (x : D) : makeD [x] 3 = [x, x, x] := by rw [makeD_one]; rfl
@[go_sem] theorem makeD_4 (x : D) : makeD [x] 4 = [x, x, x, x] := by rw [makeD_one]; rfl
@[go_sem] theorem makeD_5 (x : D) : makeD [x] 5 = [x, x, x, x, x] := by rw [makeD_one]; rfl
@[go_sem] theorem makeD_9 (x : D) : makeD [x] 9 = [x, x, x, x, x, x, x, x, x] := by rw [makeD_one]; rfl
@[go_sem] theorem ss8 (x0 x1 x2 x3 x4 x5 x6 x7 x8 y : D) (l : List D) : stSeg (x0 :: x1 :: x2 :: x3 :: x4 :: x5 :: x6 :: x7 :: x8 :: l) 8 [y] = x0 :: x1 :: x2 :: x3 :: x4 :: x5 :: x6 :: x7 :: y :: l := rfl
@[go_sem] theorem lit9_is : Is cI 9 [.int .i64 0, .int .i64 1, .int .i64 2, .int .i64 3, .int .i64 1, .int .i64 0, .int .i64 5, .int .i64 4, .int .i64 7] = True := eq_true ⟨([0, 1, 2, 3, 1, 0, 5, 4, 7] : List Int), rfl, rfl⟩
@[go_sem] theorem lit9_de : de cI [.int .i64 0, .int .i64 1, .int .i64 2, .int .i64 3, .int .i64 1, .int .i64 0, .int .i64 5, .int .i64 4, .int .i64 7] = ([0, 1, 2, 3, 1, 0, 5, 4, 7] : List Int) := de_cat (f := cI) [0, 1, 2, 3, 1, 0, 5, 4, 7]
@[go_sem] theorem lit5_is : Is cI 5 [.int .i64 2, .int .i64 0, .int .i64 3, .int .i64 1, .int .i64 5] = True := eq_true ⟨([2, 0, 3, 1, 5] : List Int), rfl, rfl⟩
@[go_sem] theorem lit5_de : de cI [.int .i64 2, .int .i64 0, .int .i64 3, .int .i64 1, .int .i64 5] = ([2, 0, 3, 1, 5] : List Int) := de_cat (f := cI) [2, 0, 3, 1, 5]
@[go_sem] theorem lit4_is : Is cI 4 [.int .i64 2, .int .i64 1, .int .i64 3, .int .i64 4] = True := eq_true ⟨([2, 1, 3, 4] : List Int), rfl, rfl⟩
@[go_sem] theorem lit4_de : de cI [.int .i64 2, .int .i64 1, .int .i64 3, .int .i64 4] = ([2, 1, 3, 4] : List Int) := de_cat (f := cI) [2, 1, 3, 4]

/-- Letters drawn. -/
noncomputable def word (ys : List UInt8) (p : Int) (n : Nat) : List Int := (List.range n).map fun (j : Nat) => numI ys (p + (j : Int)) [0, 1, 2, 3, 1, 0, 5, 4, 7]
theorem word_len (ys : List UInt8) (p : Int) (n : Nat) : (word ys p n).length = n := by simp [word]
theorem word_succ (ys : List UInt8) (p : Int) (n : Nat) : cat cI (word ys p n) ++ [.int .i64 (numI ys (p + (n : Int)) [0, 1, 2, 3, 1, 0, 5, 4, 7])] = cat cI (word ys p (n + 1)) := by
  rw [word, word, List.range_succ, List.map_append, cat_append]; rfl

set_option maxHeartbeats 1000000 in
theorem word_spec (ys : List UInt8) (p : Int) (n : Nat) (b : Nat) (H : Hp) (hH : H b = some [li cY ys, .int .i64 p]) (h0 : 0 ≤ p) (hp : p + n ≤ 1000000) (hl : ys.length ≤ 2000) (hn : n ≤ 1000) :
    Spec Try.prog 81 [.ptr b 0, .int .i64 n] H (fr 1 cI (word ys p n)) (upd H b (some [li cY ys, .int .i64 (p + n)])) := by
  refine Spec.of_walk Try.func81 rfl (by simp [Try.f81]) fun B => ?_
  (repeat' (first
    | refine AW_seq ?_
    | refine AW_region (id := 0) Γs38_ok [] (by kernel_rfl) ?_; simp  [-List.getD_eq_getElem?_getD, -List.drop_one, ↓splitB_true, ↓splitB_false, go_sem]
    | refine AW_region (id := 1) Γs38_ok [] (by kernel_rfl) ?_; simp  [-List.getD_eq_getElem?_getD, -List.drop_one, ↓splitB_true, ↓splitB_false, go_sem]
    | refine AW_region (id := 2) Γs38_ok [] (by kernel_rfl) ?_; simp  [-List.getD_eq_getElem?_getD, -List.drop_one, ↓splitB_true, ↓splitB_false, go_sem]
    | refine AW_region (id := 3) Γs38_ok [] (by kernel_rfl) ?_; simp  [-List.getD_eq_getElem?_getD, -List.drop_one, ↓splitB_true, ↓splitB_false, go_sem]
    | refine AW_region (id := 5) Γs38_ok [] (by kernel_rfl) ?_; simp  [-List.getD_eq_getElem?_getD, -List.drop_one, ↓splitB_true, ↓splitB_false, go_sem, hl, (show 0 ≤ p + (i : Int) by omega), (show p + (i : Int) ≤ 1000000 by omega), word_succ, (show i + 1 ≤ 9223372036854775807 by omega), (show 2 * (i + 1) * 8 ≤ 281474976710656 by omega)]
    | refine AW_region (id := 4) Γs38_ok [] (by kernel_rfl) ?_; simp  [-List.getD_eq_getElem?_getD, -List.drop_one, ↓splitB_true, ↓splitB_false, go_sem, wrapS (k := i) (by omega)]
    | ((obtain rfl : i = n := by omega)); refine AW_region (id := 6) Γs38_ok [] (by kernel_rfl) ?_; simp  [-List.getD_eq_getElem?_getD, -List.drop_one, ↓splitB_true, ↓splitB_false, go_sem, word_len]
    | refine AW_condA (c := .tmp 10) ?_; simp [-List.getD_eq_getElem?_getD, -List.drop_one, ↓splitB_true, ↓splitB_false, go_sem]; try first | (refine ⟨?_, ?_⟩ <;> change AW _ _ _ _ _ _) | (refine ⟨fun c10 => ?_, fun c10 => ?_⟩ <;> (try simp [B_iff, B_not] at c10))
    | (refine AW_block (id := 0) (AW_loop (ι := Nat) (fun i : Nat => ⟨(upd (upd (upd (upd (fun _ => .any) 0 (.ptr b 0)) 1 (.int .i64 n)) 5 (.fr 1 i (cat cI (word ys p i)))) 6 (.int .i64 i)), upd H b (some [.list ys.length (cat cY ys), .int .i64 (p + i)])⟩) (fun i => i ≤ n) (fun i => n - i) (0) ?_ ?_ ?_); exact Nat.zero_le _; ((repeat' (first | exact sub_noneH (by assumption) | exact sub_none | refine sub_upd ?_ ?_ | refine sub_noneE ?_)) <;> simp [-List.getD_eq_getElem?_getD, -List.drop_one, ↓splitB_true, ↓splitB_false, go_sem, (show upd H b (some [.list ys.length (cat cY ys), .int .i64 p]) = H from upd_self hH), word]); rintro i hi)
    | (refine ⟨i + 1, by omega, by first | omega | (simp; done) | (simp; omega), ?_⟩; ((repeat' (first | exact sub_noneH (by assumption) | exact sub_none | refine sub_upd ?_ ?_ | refine sub_noneE ?_)) <;> simp [-List.getD_eq_getElem?_getD, -List.drop_one, ↓splitB_true, ↓splitB_false, go_sem, (show p + ((i : Int) + 1) = p + (i : Int) + 1 by omega), (show p + ((i + 1 : Nat) : Int) = p + (i : Int) + 1 by omega)]))
    | (refine AW_block ?_)
    | (refine AW_exit ?_; simp [-List.getD_eq_getElem?_getD, -List.drop_one, ↓splitB_true, ↓splitB_false, go_sem])
    | (refine AW_skip ?_; simp [-List.getD_eq_getElem?_getD, -List.drop_one, ↓splitB_true, ↓splitB_false, go_sem])
    | (refine AW_ret ?_; simp [-List.getD_eq_getElem?_getD, -List.drop_one, ↓splitB_true, ↓splitB_false, go_sem, Try.results81])
    | (intro hx; change AW _ _ _ _ _ _)
    | (refine ⟨?_, ?_⟩ <;> change AW _ _ _ _ _ _)
    | (intro hx; refine ⟨fun hs => ?_, fun hs => ?_⟩)
    | (refine ⟨fun hs => ?_, fun hs => ?_⟩)
    | (refine ⟨?_, fun hs => ?_⟩; change AW _ _ _ _ _ _)
    | (refine ⟨fun hs => ?_, ?_⟩; rotate_left; change AW _ _ _ _ _ _; rotate_left)))
noncomputable def wordC : Con := .gen fun args H => match args with
  | [.ptr b 0, .int .i64 n] => match H b with
    | some [.list m cs, .int .i64 p] => (Is cY m cs ∧ 0 ≤ p ∧ p + n ≤ 1000000 ∧ m ≤ 2000 ∧ 0 ≤ n ∧ n ≤ 1000, fr 1 cI (word (de cY cs) p n.toNat), upd H b (some [.list m cs, .int .i64 (p + n)]))
    | _ => (False, .any, H)
  | _ => (False, .any, H)
attribute [go_sem] wordC
theorem wordC_ok : ConOk Try.prog 81 wordC := by
  refine ⟨callable Try.func81 (by decide) rfl, fun args H h => ?_⟩
  revert h
  dsimp only
  split
  · rename_i b n
    split
    · rename_i m cs p hH
      rintro ⟨⟨ys, rfl, rfl⟩, h0, h1, h2, h3, h4⟩
      obtain ⟨q, rfl⟩ : ∃ q : Nat, n = q := ⟨n.toNat, by omega⟩
      rw [de_cat]
      exact word_spec ys p q b H hH h0 h1 h2 (by omega)
    · intro h; exact h.elim
  · intro h
    exact h.elim
noncomputable def Γs39 : FuncId → Con := ext Γs38 81 wordC
attribute [go_sem] Γs39
theorem Γs39_ok : ∀ g, ConOk Try.prog g (Γs39 g) := ext_ok Γs38_ok wordC_ok

theorem numI_range (ys : List UInt8) {p : Int} (hp : p ≤ 1000000) {xs : List Int} {lo hi : Int} (h : ∀ x ∈ xs, lo ≤ x ∧ x ≤ hi) (hx : 1 ≤ xs.length) : lo ≤ numI ys p xs ∧ numI ys p xs ≤ hi := by
  obtain ⟨k1, k2⟩ := pkI_range ys hp (n := (xs.length : Int)) (by omega)
  have k3 : (pkI ys p xs.length).toNat < xs.length := by omega
  unfold numI
  rw [nth_lt k3]
  exact h _ (List.getElem_mem k3)
/-! What is drawn. -/
noncomputable def dS (ys : List UInt8) (p : Int) : List Int := word ys (p + 1) (numI ys p [2, 0, 3, 1, 5]).toNat
noncomputable def dq (ys : List UInt8) (p : Int) : Int := p + 1 + numI ys p [2, 0, 3, 1, 5]
noncomputable def dL0 (ys : List UInt8) (p : Int) : List Int := word ys (dq ys p + 1) (numI ys (dq ys p) [2, 1, 3, 4]).toNat
noncomputable def dq2 (ys : List UInt8) (p : Int) : Int := dq ys p + 1 + numI ys (dq ys p) [2, 1, 3, 4]
noncomputable def dL (ys : List UInt8) (p : Int) : List Int := if pkI ys (dq2 ys p) 4 = 0 then dL0 ys p ++ dL0 ys p else dL0 ys p
theorem d_range (ys : List UInt8) {p : Int} (hp : p ≤ 900000) : p ≤ dq ys p ∧ dq ys p ≤ p + 6 ∧ dq ys p ≤ dq2 ys p ∧ dq2 ys p ≤ p + 11 ∧ (dS ys p).length ≤ 5 ∧ 1 ≤ (dL0 ys p).length ∧ (dL0 ys p).length ≤ 4 := by
  have h1 := numI_range ys (p := p) (by omega) (xs := [2, 0, 3, 1, 5]) (lo := 0) (hi := 5) (by decide) (by decide)
  have h2 := numI_range ys (p := dq ys p) (by unfold dq; omega) (xs := [2, 1, 3, 4]) (lo := 1) (hi := 4) (by decide) (by decide)
  unfold dS dL0 dq2
  rw [word_len, word_len]
  unfold dq at *
  omega
theorem fresh1 {f : Hp} {a z : Nat} {u : List D} (h : upd f a (some u) z = none) : ¬ z = a := by
  rintro rfl; rw [upd_eq] at h; cases h

set_option maxHeartbeats 1000000 in
theorem lasso_spec (ys : List UInt8) (p : Int) (b : Nat) (H : Hp) (hH : H b = some [li cY ys, .int .i64 p]) (h0 : 0 ≤ p) (hp : p ≤ 900000) (hl : ys.length ≤ 2000) :
    Spec Try.prog 53 [.ptr b 0] H (.st [fr 1 cI (dS ys p), fr 1 cI (dL ys p)]) (upd H b (some [li cY ys, .int .i64 (dq2 ys p + 1)])) := by
  refine Spec.of_walk Try.func53 rfl (by simp [Try.f53]) fun B => ?_
  obtain ⟨r1, r2, r3, r4, r5, r6, r7⟩ := d_range ys hp
  have k1 := numI_range ys (p := p) (by omega) (xs := [2, 0, 3, 1, 5]) (lo := 0) (hi := 5) (by decide) (by decide)
  have k2 := numI_range ys (p := dq ys p) (by omega) (xs := [2, 1, 3, 4]) (lo := 1) (hi := 4) (by decide) (by decide)
  by_cases hz : pkI ys (dq2 ys p) 4 = 0
  all_goals (repeat' (first
    | refine AW_seq ?_
    | refine AW_region (id := 0) Γs39_ok [] (by kernel_rfl) ?_; simp  [-List.getD_eq_getElem?_getD, -List.drop_one, ↓splitB_true, ↓splitB_false, go_sem]
    | refine AW_region (id := 1) Γs39_ok [] (by kernel_rfl) ?_; simp  [-List.getD_eq_getElem?_getD, -List.drop_one, ↓splitB_true, ↓splitB_false, go_sem, hH, h0, hl, (show p + 1 + numI ys p [2, 0, 3, 1, 5] = dq ys p from rfl), (show word ys (p + 1) (numI ys p [2, 0, 3, 1, 5]).toNat = dS ys p from rfl), (show dq ys p + 1 + numI ys (dq ys p) [2, 1, 3, 4] = dq2 ys p from rfl), (show word ys (dq ys p + 1) (numI ys (dq ys p) [2, 1, 3, 4]).toNat = dL0 ys p from rfl), k1.1, (show numI ys p [2, 0, 3, 1, 5] ≤ 1000 by omega), (show 0 ≤ numI ys (dq ys p) [2, 1, 3, 4] by omega), (show numI ys (dq ys p) [2, 1, 3, 4] ≤ 1000 by omega), (show p ≤ 1000000 by omega), (show 0 ≤ p + 1 by omega), (show dq ys p ≤ 1000000 by omega), (show 0 ≤ dq ys p by omega), (show 0 ≤ dq ys p + 1 by omega), (show dq2 ys p ≤ 1000000 by omega)]
    | refine AW_region (id := 2) Γs39_ok [] (by kernel_rfl) ?_; simp  [-List.getD_eq_getElem?_getD, -List.drop_one, ↓splitB_true, ↓splitB_false, go_sem, hz, hl, (show dq2 ys p ≤ 1000000 by omega), (show 0 ≤ dq2 ys p by omega)]
    | ((refine AW_box2c 3 rfl fun pb x y j1 j2 cp1 cp2 hpb hx hy n1 n2 n3 hc1 hd1 hc2 hd2 => ?_); (have m1 := fresh1 hpb); (have m2 := fresh1 hx); (have m3 := fresh1 hy); (have v1 : H pb = none := (by dsimp only at hpb; rwa [upd_ne m1] at hpb)); (have v2 : H x = none := (by dsimp only at hx; rwa [upd_ne m2] at hx)); (have v3 : H y = none := (by dsimp only at hy; rwa [upd_ne m3] at hy)); (clear hpb hx hy)); refine AW_region_draw (id := 3) Γs39_ok mixed [] [3] (by kernel_rfl) (by kernel_rfl) (by simp [-List.getD_eq_getElem?_getD, -List.drop_one, ↓splitB_true, ↓splitB_false, go_sem, hz, n1, n2, n3, m1, m2, m3, Ne.symm n1, Ne.symm n2, Ne.symm n3, Ne.symm m1, Ne.symm m2, Ne.symm m3, (show (dL0 ys p).length ≤ 9223372036854775807 by omega), (show 2 * (dL0 ys p).length * 8 ≤ 281474976710656 by omega), (show (dL0 ys p).length + (dL0 ys p).length ≤ 9223372036854775807 by omega), (show 2 * ((dL0 ys p).length + (dL0 ys p).length) * 8 ≤ 281474976710656 by omega)]) ?_; simp  [-List.getD_eq_getElem?_getD, -List.drop_one, ↓splitB_true, ↓splitB_false, go_sem, hz, n1, n2, n3, m1, m2, m3, Ne.symm n1, Ne.symm n2, Ne.symm n3, Ne.symm m1, Ne.symm m2, Ne.symm m3, (show (dL0 ys p).length ≤ 9223372036854775807 by omega), (show 2 * (dL0 ys p).length * 8 ≤ 281474976710656 by omega), (show (dL0 ys p).length + (dL0 ys p).length ≤ 9223372036854775807 by omega), (show 2 * ((dL0 ys p).length + (dL0 ys p).length) * 8 ≤ 281474976710656 by omega)]
    | (first | (refine AW_unmatCell pb 0 (b' := x) (sz := 1) (m := (dS ys p).length) (cp := cp1) (all := [.sl x 1 0 (dS ys p).length cp1, .fr 1 ((dL0 ys p).length + (dL0 ys p).length) (cat cI (dL0 ys p) ++ cat cI (dL0 ys p))]) (cs := cat cI (dS ys p) ++ List.replicate j1 .any) (by dsimp only; exact upd_eq ..) rfl n1 (by dsimp only; rw [upd_ne (Ne.symm n1), upd_ne n3, upd_eq]) (by omega) (by simp [cat_length]) (by simp [cat_length]; omega) ?_) | (refine AW_matBox 3 rfl fun pb hpb => ?_; have m1 := fresh1 hpb; have v1 : H pb = none := (by dsimp only at hpb; rwa [upd_ne m1] at hpb); clear hpb)); refine AW_region (id := 4) Γs39_ok [] (by kernel_rfl) ?_; simp  [-List.getD_eq_getElem?_getD, -List.drop_one, ↓splitB_true, ↓splitB_false, go_sem, m1, Ne.symm m1]
    | refine AW_condA (c := .tmp 17) ?_; simp [-List.getD_eq_getElem?_getD, -List.drop_one, ↓splitB_true, ↓splitB_false, go_sem]; try first | (refine ⟨?_, ?_⟩ <;> change AW _ _ _ _ _ _) | (refine ⟨fun c17 => ?_, fun c17 => ?_⟩ <;> (try simp [B_iff, B_not] at c17))
    | (refine AW_block ?_)
    | (refine AW_exit ?_; simp [-List.getD_eq_getElem?_getD, -List.drop_one, ↓splitB_true, ↓splitB_false, go_sem])
    | (refine AW_skip ?_; simp [-List.getD_eq_getElem?_getD, -List.drop_one, ↓splitB_true, ↓splitB_false, go_sem])
    | (refine AW_ret ?_; simp [-List.getD_eq_getElem?_getD, -List.drop_one, ↓splitB_true, ↓splitB_false, go_sem, Try.results53])
    | (intro hx; change AW _ _ _ _ _ _)
    | (refine ⟨?_, ?_⟩ <;> change AW _ _ _ _ _ _)
    | (intro hx; refine ⟨fun hs => ?_, fun hs => ?_⟩)
    | (refine ⟨fun hs => ?_, fun hs => ?_⟩)
    | (refine ⟨?_, fun hs => ?_⟩; change AW _ _ _ _ _ _)
    | (refine ⟨fun hs => ?_, ?_⟩; rotate_left; change AW _ _ _ _ _ _; rotate_left)))
  all_goals (first
    | (refine ⟨by simp [dL, hz], fun b' cs' h => ?_⟩; by_cases e1 : b' = b <;> by_cases e2 : b' = pb <;> simp_all; done)
    | (refine ⟨by simp [dL, hz, cat_append], fun b' cs' h => ?_⟩; by_cases e1 : b' = b <;> by_cases e2 : b' = pb <;> by_cases e3 : b' = x <;> by_cases e4 : b' = y <;> simp_all; done)
    | skip)
end Go.Proofs.Ytlbbhkpjjciaiaa.Vm

