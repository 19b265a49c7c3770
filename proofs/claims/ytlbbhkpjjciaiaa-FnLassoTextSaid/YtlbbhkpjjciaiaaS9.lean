/-
  Lassos reduced, the other way. No conditions.
-/
import Derived.Test.YtlbbhkpjjciaiaaS8
namespace Go.Proofs.Ytlbbhkpjjciaiaa.Vm
open Go
set_option linter.unusedVariables false
set_option linter.unusedSimpArgs false
set_option maxRecDepth 200000

theorem Equal_pure (xs : List Int) (ys : List Int)  : Pure Try.prog 58 [li cI xs, li cI ys] (.bool (decide (xs = ys))) := by
  refine Pure.of_walk Try.func58 rfl (by simp [Try.f58]) (by simp [-List.drop_one, go_sem]) fun B hK => ?_
  (repeat' (first
    | refine AW_seq ?_
    | (refine AW_len 0 rfl fun hm => ?_); refine AW_region (id := 0) Γs27_ok [] (by kernel_rfl) ?_; simp  [-List.getD_eq_getElem?_getD, -List.drop_one, ↓splitB_true, ↓splitB_false, go_sem]
    | refine AW_region (id := 1) Γs27_ok [] (by kernel_rfl) ?_; simp  [-List.getD_eq_getElem?_getD, -List.drop_one, ↓splitB_true, ↓splitB_false, go_sem]
    | refine AW_region (id := 2) Γs27_ok [] (by kernel_rfl) ?_; simp  [-List.getD_eq_getElem?_getD, -List.drop_one, ↓splitB_true, ↓splitB_false, go_sem]
    | refine AW_region (id := 3) Γs27_ok [] (by kernel_rfl) ?_; simp  [-List.getD_eq_getElem?_getD, -List.drop_one, ↓splitB_true, ↓splitB_false, go_sem]
    | refine AW_region (id := 4) Γs27_ok [] (by kernel_rfl) ?_; simp  [-List.getD_eq_getElem?_getD, -List.drop_one, ↓splitB_true, ↓splitB_false, go_sem]
    | refine AW_region (id := 5) Γs27_ok [] (by kernel_rfl) ?_; simp  [-List.getD_eq_getElem?_getD, -List.drop_one, ↓splitB_true, ↓splitB_false, go_sem, c14, ne_nil c14, Nat.sub_pos_of_lt c14]
    | (have cy : k < ys.length := by omega); refine AW_region_draw (id := 6) Γs27_ok mixed [] [5] (by kernel_rfl) (by kernel_rfl) (by simp [-List.getD_eq_getElem?_getD, -List.drop_one, ↓splitB_true, ↓splitB_false, go_sem, c14, ne_nil c14, Nat.sub_pos_of_lt c14, cy, ne_nil cy, Nat.sub_pos_of_lt cy]) ?_; simp  [-List.getD_eq_getElem?_getD, -List.drop_one, ↓splitB_true, ↓splitB_false, go_sem, c14, ne_nil c14, Nat.sub_pos_of_lt c14, cy, ne_nil cy, Nat.sub_pos_of_lt cy]
    | refine AW_region (id := 7) Γs27_ok [] (by kernel_rfl) ?_; simp  [-List.getD_eq_getElem?_getD, -List.drop_one, ↓splitB_true, ↓splitB_false, go_sem]
    | refine AW_region (id := 8) Γs27_ok [] (by kernel_rfl) ?_; simp  [-List.getD_eq_getElem?_getD, -List.drop_one, ↓splitB_true, ↓splitB_false, go_sem, wrapS (k := k) (by omega)]
    | refine AW_region (id := 9) Γs27_ok [] (by kernel_rfl) ?_; simp  [-List.getD_eq_getElem?_getD, -List.drop_one, ↓splitB_true, ↓splitB_false, go_sem]
    | refine AW_condA (c := .tmp 10) ?_; simp [-List.getD_eq_getElem?_getD, -List.drop_one, ↓splitB_true, ↓splitB_false, go_sem]; try first | (refine ⟨?_, ?_⟩ <;> change AW _ _ _ _ _ _) | (refine ⟨fun c10 => ?_, fun c10 => ?_⟩ <;> (try simp [B_iff, B_not] at c10))
    | refine AW_condA (c := .tmp 14) ?_; simp [-List.getD_eq_getElem?_getD, -List.drop_one, ↓splitB_true, ↓splitB_false, go_sem]; try first | (refine ⟨?_, ?_⟩ <;> change AW _ _ _ _ _ _) | (refine ⟨fun c14 => ?_, fun c14 => ?_⟩ <;> (try simp [B_iff, B_not] at c14))
    | refine AW_condA (c := .tmp 24) ?_; simp [-List.getD_eq_getElem?_getD, -List.drop_one, ↓splitB_true, ↓splitB_false, go_sem]; try first | (refine ⟨?_, ?_⟩ <;> change AW _ _ _ _ _ _) | (refine ⟨fun c24 => ?_, fun c24 => ?_⟩ <;> (try simp [B_iff, B_not] at c24))
    | (refine AW_block (id := 0) (AW_loop (ι := Nat) (fun k : Nat => ⟨(upd (upd (upd (upd (upd (fun _ => .any) 0 (li cI xs)) 1 (li cI ys)) 11 (li cI xs)) 12 (.int .i64 xs.length)) 13 (.int .i64 k)), fun _ => none⟩) (fun k => k ≤ xs.length ∧ NoneTill (neAt xs ys) k) (fun k => xs.length - k) (0) ?_ ?_ ?_); exact ⟨Nat.zero_le _, .zero _⟩; ((repeat' (first | exact sub_noneH (by assumption) | exact sub_none | refine sub_upd ?_ ?_ | refine sub_noneE ?_)) <;> simp [-List.getD_eq_getElem?_getD, -List.drop_one, ↓splitB_true, ↓splitB_false, go_sem]); rintro k ⟨hk, ht⟩)
    | (refine ⟨k + 1, ⟨by omega, ht.succ (by simp [neAt]; first | exact c24 | (simp_all [Prod.ext_iff]; done) | simp_all)⟩, by first | omega | (simp; done) | (simp; omega), ?_⟩; ((repeat' (first | exact sub_noneH (by assumption) | exact sub_none | refine sub_upd ?_ ?_ | refine sub_noneE ?_)) <;> simp [-List.getD_eq_getElem?_getD, -List.drop_one, ↓splitB_true, ↓splitB_false, go_sem]))
    | (refine AW_block ?_)
    | (refine AW_exit ?_; simp [-List.getD_eq_getElem?_getD, -List.drop_one, ↓splitB_true, ↓splitB_false, go_sem])
    | (refine AW_skip ?_; simp [-List.getD_eq_getElem?_getD, -List.drop_one, ↓splitB_true, ↓splitB_false, go_sem])
    | (refine AW_ret ?_; simp [-List.getD_eq_getElem?_getD, -List.drop_one, ↓splitB_true, ↓splitB_false, go_sem, Try.results58])
    | (intro hx; change AW _ _ _ _ _ _)
    | (refine ⟨?_, ?_⟩ <;> change AW _ _ _ _ _ _)
    | (intro hx; refine ⟨fun hs => ?_, fun hs => ?_⟩)
    | (refine ⟨fun hs => ?_, fun hs => ?_⟩)
    | (refine ⟨?_, fun hs => ?_⟩; change AW _ _ _ _ _ _)
    | (refine ⟨fun hs => ?_, ?_⟩; rotate_left; change AW _ _ _ _ _ _; rotate_left)))
  all_goals (first
    | (rintro rfl; simp at c10; done)
    | (rintro rfl; simp at c24; done)
    | (rintro rfl; exact c24 rfl)
    | exact eq_of_none (by omega) ht (by omega)
    | skip)
noncomputable def Equal_pureC : Con := .pure fun
  | [.list n_xs c_xs, .list n_ys c_ys] => ((Is cI n_xs c_xs) ∧ (Is cI n_ys c_ys), .bool (decide ((de cI c_xs) = (de cI c_ys))))
  | _ => (False, .any)
attribute [go_sem] Equal_pureC
theorem Equal_pureC_ok : ConOk Try.prog 58 Equal_pureC := by
  refine ⟨callable Try.func58 (by decide) rfl, fun args h => ?_⟩
  revert h
  dsimp only
  split
  · intro h
    obtain ⟨⟨xs, rfl, rfl⟩, ⟨ys, rfl, rfl⟩⟩ := h
    try simp only [de_cat] at *
    exact ⟨Equal_pure xs ys, by simp [go_sem]⟩
  · intro h
    exact h.elim
noncomputable def Γs28 : FuncId → Con := ext Γs27 58 Equal_pureC
attribute [go_sem] Γs28
theorem Γs28_ok : ∀ g, ConOk Try.prog g (Γs28 g) := ext_ok Γs27_ok Equal_pureC_ok

theorem tdiv_nat (a b : Nat) : (a : Int).tdiv b = ((a / b : Nat) : Int) := by rw [Int.ofNat_tdiv]
theorem per_last {b : List Int} {n : Nat} (h1 : 1 ≤ b.length) (h2 : b.length < n) (h : ∀ m, 1 ≤ m → m < n → ¬ Per b m) : False :=
  h b.length h1 h2 ⟨Nat.mod_self _, fun i h1 h2 => by omega⟩
theorem per_is {b : List Int} {n : Nat} (h1 : 1 ≤ n) (h2 : n ≤ b.length) (h3 : Per b n) (h4 : ∀ m, 1 ≤ m → m < n → ¬ Per b m) : period b = n := by
  rcases Nat.lt_or_ge n b.length with h | h
  · exact period_at h1 h h3 h4
  · obtain rfl : n = b.length := by omega
    exact period_none h4

set_option maxHeartbeats 2000000 in
theorem reduced_pure (a : List Int) (b : List Int) (hL : LasOk a b) : Pure Try.prog 67 [.st [li cI a, li cI b]] (.st [fr 1 cI (redS a b), fr 1 cI (redL a b)]) := by
  refine Pure.of_walk Try.func67 rfl (by simp [Try.f67]) (by simp [-List.drop_one, go_sem]) fun B hK => ?_
  obtain ⟨hL1, hL2, g3, g4, g5⟩ := hL
  all_goals (repeat' (first
    | refine AW_seq ?_
    | refine AW_region (id := 0) Γs28_ok [] (by kernel_rfl) ?_; simp  [-List.getD_eq_getElem?_getD, -List.drop_one, ↓splitB_true, ↓splitB_false, go_sem]; try (refine AW_data hK 1 ?_; simp [go_sem])
    | refine AW_region_draw (id := 1) Γs28_ok mixed [] [1] (by kernel_rfl) (by kernel_rfl) (by simp [-List.getD_eq_getElem?_getD, -List.drop_one, ↓splitB_true, ↓splitB_false, go_sem, (show a.length ≤ 1048576 by omega), (show b.length ≤ 1048576 by omega)]) ?_; simp  [-List.getD_eq_getElem?_getD, -List.drop_one, ↓splitB_true, ↓splitB_false, go_sem, (show a.length ≤ 1048576 by omega), (show b.length ≤ 1048576 by omega)]; try (refine AW_data hK 3 ?_; simp [go_sem]; refine AW_data hK 4 ?_; simp [go_sem])
    | refine AW_region (id := 2) Γs28_ok [] (by kernel_rfl) ?_; simp  [-List.getD_eq_getElem?_getD, -List.drop_one, ↓splitB_true, ↓splitB_false, go_sem]
    | refine AW_region (id := 3) Γs28_ok [] (by kernel_rfl) ?_; simp  [-List.getD_eq_getElem?_getD, -List.drop_one, ↓splitB_true, ↓splitB_false, go_sem]
    | (have hd : 1 ≤ b.length / n := (Nat.div_pos (by omega) (by omega)); have hd2 : b.length / n ≤ 80 := (Nat.le_trans (Nat.div_le_self _ _) (by omega)); have hmn : min n b.length = n := (by omega)); refine AW_region_draw (id := 5) Γs28_ok mixed [24] [4, 5] (by kernel_rfl) (by kernel_rfl) (by simp [-List.getD_eq_getElem?_getD, -List.drop_one, ↓splitB_true, ↓splitB_false, go_sem, tmod_nat, tdiv_nat, (show ¬ n = 0 by omega), mod_nat, hd, hd2, hmn, (show IntKind.i64.wrap ((b.length : Int) / (n : Int)) = (b.length : Int) / (n : Int) by rw [← Int.natCast_ediv, wrap_in (by omega) (by omega)]), (show (1 : Int) ≤ (b.length : Int) / (n : Int) by rw [← Int.natCast_ediv]; omega), (show (b.length : Int) / (n : Int) ≤ 80 by rw [← Int.natCast_ediv]; omega), (show ((b.length : Int) / (n : Int)).toNat = b.length / n by rw [← Int.natCast_ediv]; rfl), (show 0 < n by omega), (show n ≤ 80 by omega), (show n ≤ b.length by omega), (show (n : Int) ≤ b.length by omega)]) ?_; simp  [-List.getD_eq_getElem?_getD, -List.drop_one, ↓splitB_true, ↓splitB_false, go_sem, tmod_nat, tdiv_nat, (show ¬ n = 0 by omega), mod_nat, hd, hd2, hmn, (show IntKind.i64.wrap ((b.length : Int) / (n : Int)) = (b.length : Int) / (n : Int) by rw [← Int.natCast_ediv, wrap_in (by omega) (by omega)]), (show (1 : Int) ≤ (b.length : Int) / (n : Int) by rw [← Int.natCast_ediv]; omega), (show (b.length : Int) / (n : Int) ≤ 80 by rw [← Int.natCast_ediv]; omega), (show ((b.length : Int) / (n : Int)).toNat = b.length / n by rw [← Int.natCast_ediv]; rfl), (show 0 < n by omega), (show n ≤ 80 by omega), (show n ≤ b.length by omega), (show (n : Int) ≤ b.length by omega)]; try (refine ⟨fun s5a => ?_, fun s5a => ?_⟩ <;> (try simp [B_iff, B_not] at s5a) <;> try (refine ⟨fun s5b => ?_, fun s5b => ?_⟩ <;> (try simp [B_iff, B_not] at s5b)))
    | refine AW_region (id := 6) Γs28_ok [] (by kernel_rfl) ?_; simp  [-List.getD_eq_getElem?_getD, -List.drop_one, ↓splitB_true, ↓splitB_false, go_sem, (show n ≤ b.length by omega)]; try (have hper : period b = n := per_is hn (by omega) ⟨s5a, (rep_per (by omega) (by omega) s5a).1 c35⟩ hm; have hcl : (b.take n).length = n := (by simp; omega))
    | (have hnp : ¬ Per b n := (by first | exact fun hp => s5a hp.1 | exact fun hp => c35 ((rep_per (by omega) (by omega) s5a).2 hp.2))); refine AW_region (id := 4) Γs28_ok [] (by kernel_rfl) ?_; simp  [-List.getD_eq_getElem?_getD, -List.drop_one, ↓splitB_true, ↓splitB_false, go_sem, wrapS (k := n) (by omega)]
    | (have hll := lp_len (l := b.take n) (by omega) t; (rw [hcl] at hll); have i1 : a.length - t - 1 < (a.take (a.length - t)).length := (by simp; omega); have i2 : n - 1 < (lp (b.take n) t).length := (by omega)); refine AW_region_draw (id := 7) Γs28_ok mixed [42] [3, 4] (by kernel_rfl) (by kernel_rfl) (by simp [-List.getD_eq_getElem?_getD, -List.drop_one, ↓splitB_true, ↓splitB_false, go_sem, i1, ne_nil i1, Nat.sub_pos_of_lt i1, i2, ne_nil i2, Nat.sub_pos_of_lt i2, hll, (show 0 < a.length - t - (a.length - t - 1) by omega), (show 0 < n - (n - 1) by omega), (show ¬ a.length - t = 0 by omega), (show 0 < a.length - t by omega), wrap_in (x := ((a.length - t : Nat) : Int) - 1) (by omega) (by omega), wrap_in (x := (n : Int) - 1) (by omega) (by omega), (show (((a.length - t : Nat) : Int) - 1).toNat = a.length - t - 1 by omega), (show ((n : Int) - 1).toNat = n - 1 by omega), (show n - 1 < n by omega), (show a.length - t - 1 < a.length - t by omega), (show (1 : Int) ≤ ((a.length - t : Nat) : Int) by omega), (show 1 ≤ n by omega), (show 1 ≤ a.length - t by omega), (show (0 : Int) ≤ ((a.length - t : Nat) : Int) - 1 by omega), (show (0 : Int) ≤ (n : Int) - 1 by omega), (show ((a.length - t : Nat) : Int) - 1 < ((a.length - t : Nat) : Int) by omega), (show (n : Int) - 1 < n by omega), (show (1 : Int) ≤ n by omega), nth_take (xs := a) (k := a.length - t) (j := a.length - t - 1) (by omega)]) ?_; simp  [-List.getD_eq_getElem?_getD, -List.drop_one, ↓splitB_true, ↓splitB_false, go_sem, i1, ne_nil i1, Nat.sub_pos_of_lt i1, i2, ne_nil i2, Nat.sub_pos_of_lt i2, hll, (show 0 < a.length - t - (a.length - t - 1) by omega), (show 0 < n - (n - 1) by omega), (show ¬ a.length - t = 0 by omega), (show 0 < a.length - t by omega), wrap_in (x := ((a.length - t : Nat) : Int) - 1) (by omega) (by omega), wrap_in (x := (n : Int) - 1) (by omega) (by omega), (show (((a.length - t : Nat) : Int) - 1).toNat = a.length - t - 1 by omega), (show ((n : Int) - 1).toNat = n - 1 by omega), (show n - 1 < n by omega), (show a.length - t - 1 < a.length - t by omega), (show (1 : Int) ≤ ((a.length - t : Nat) : Int) by omega), (show 1 ≤ n by omega), (show 1 ≤ a.length - t by omega), (show (0 : Int) ≤ ((a.length - t : Nat) : Int) - 1 by omega), (show (0 : Int) ≤ (n : Int) - 1 by omega), (show ((a.length - t : Nat) : Int) - 1 < ((a.length - t : Nat) : Int) by omega), (show (n : Int) - 1 < n by omega), (show (1 : Int) ≤ n by omega), nth_take (xs := a) (k := a.length - t) (j := a.length - t - 1) (by omega)]; try (refine ⟨fun s7a => ?_, fun s7a => ?_⟩ <;> (try simp [B_iff, B_not] at s7a) <;> try (refine ⟨fun s7b => ?_, fun s7b => ?_⟩ <;> (try simp [B_iff, B_not] at s7b)))
    | refine AW_region_draw (id := 7) Γs28_ok mixed [42] [3, 4] (by kernel_rfl) (by kernel_rfl) (by simp [-List.getD_eq_getElem?_getD, -List.drop_one, ↓splitB_true, ↓splitB_false, go_sem, (show a.length - t = 0 by omega)]) ?_; simp  [-List.getD_eq_getElem?_getD, -List.drop_one, ↓splitB_true, ↓splitB_false, go_sem, (show a.length - t = 0 by omega)]; try (refine ⟨fun s7a => ?_, fun s7a => ?_⟩ <;> (try simp [B_iff, B_not] at s7a) <;> try (refine ⟨fun s7b => ?_, fun s7b => ?_⟩ <;> (try simp [B_iff, B_not] at s7b)))
    | refine AW_region (id := 8) Γs28_ok [] (by kernel_rfl) ?_; simp  [-List.getD_eq_getElem?_getD, -List.drop_one, ↓splitB_true, ↓splitB_false, go_sem, wrap_in (x := (n : Int) - 1) (by omega) (by omega)]
    | (have hr := rotR_eq (l := lp (b.take n) t) (by omega); (rw [hll] at hr)); refine AW_region_draw (id := 9) Γs28_ok mixed [] [4, 6] (by kernel_rfl) (by kernel_rfl) (by simp [-List.getD_eq_getElem?_getD, -List.drop_one, ↓splitB_true, ↓splitB_false, go_sem, hll, hr, (show ((n : Int) - ((n : Int) - 1)).toNat = n - (n - 1) by omega), (show ((n : Int) - 1).toNat = n - 1 by omega), (show ((lp (b.take n) t).drop (n - 1)).take (n - (n - 1)) = (lp (b.take n) t).drop (n - 1) from List.take_of_length_le (by simp; omega)), (show min (n - 1) n = n - 1 by omega), (show n - (n - 1) + (n - 1) = n by omega), (show n ≤ 1048576 by omega), (show (0 : Int) ≤ (n : Int) - 1 by omega), (show (n : Int) - 1 ≤ n by omega), (show (1 : Int) ≤ n by omega), (show 1 ≤ n by omega), (show n - 1 ≤ n by omega)]) ?_; simp  [-List.getD_eq_getElem?_getD, -List.drop_one, ↓splitB_true, ↓splitB_false, go_sem, hll, hr, (show ((n : Int) - ((n : Int) - 1)).toNat = n - (n - 1) by omega), (show ((n : Int) - 1).toNat = n - 1 by omega), (show ((lp (b.take n) t).drop (n - 1)).take (n - (n - 1)) = (lp (b.take n) t).drop (n - 1) from List.take_of_length_le (by simp; omega)), (show min (n - 1) n = n - 1 by omega), (show n - (n - 1) + (n - 1) = n by omega), (show n ≤ 1048576 by omega), (show (0 : Int) ≤ (n : Int) - 1 by omega), (show (n : Int) - 1 ≤ n by omega), (show (1 : Int) ≤ n by omega), (show 1 ≤ n by omega), (show n - 1 ≤ n by omega)]; try (refine AW_data hK 4 ?_; simp [go_sem])
    | refine AW_region (id := 10) Γs28_ok [] (by kernel_rfl) ?_; simp  [-List.getD_eq_getElem?_getD, -List.drop_one, ↓splitB_true, ↓splitB_false, go_sem, wrap_in (x := ((a.length - t : Nat) : Int) - 1) (by omega) (by omega), (show (((a.length - t : Nat) : Int) - 1).toNat = a.length - t - 1 by omega), (show (1 : Int) ≤ ((a.length - t : Nat) : Int) by omega), (show (0 : Int) ≤ ((a.length - t : Nat) : Int) - 1 by omega), (show ((a.length - t : Nat) : Int) - 1 ≤ ((a.length - t : Nat) : Int) by omega), (show a.length - t - 1 ≤ a.length - t by omega), List.take_take, (show min (a.length - t - 1) (a.length - t) = a.length - t - 1 by omega)]
    | (have hll := lp_len (l := b.take n) (by omega) t; (rw [hcl] at hll)); refine AW_region (id := 11) Γs28_ok [] (by kernel_rfl) ?_; simp  [-List.getD_eq_getElem?_getD, -List.drop_one, ↓splitB_true, ↓splitB_false, go_sem, hll, (show min (a.length - t) a.length = a.length - t by omega), (show a.length - t ≤ 1048576 by omega), (show n ≤ 1048576 by omega), hcl]
    | refine AW_condA (c := .tmp 16) ?_; simp [-List.getD_eq_getElem?_getD, -List.drop_one, ↓splitB_true, ↓splitB_false, go_sem]; try first | (refine ⟨?_, ?_⟩ <;> change AW _ _ _ _ _ _) | (refine ⟨fun c16 => ?_, fun c16 => ?_⟩ <;> (try simp [B_iff, B_not] at c16))
    | refine AW_condA (c := .tmp 35) ?_; simp [-List.getD_eq_getElem?_getD, -List.drop_one, ↓splitB_true, ↓splitB_false, go_sem]; try first | (refine ⟨?_, ?_⟩ <;> change AW _ _ _ _ _ _) | (refine ⟨fun c35 => ?_, fun c35 => ?_⟩ <;> (try simp [B_iff, B_not] at c35))
    | refine AW_condA (c := .tmp 56) ?_; simp [-List.getD_eq_getElem?_getD, -List.drop_one, ↓splitB_true, ↓splitB_false, go_sem]; try first | (refine ⟨?_, ?_⟩ <;> change AW _ _ _ _ _ _) | (refine ⟨fun c56 => ?_, fun c56 => ?_⟩ <;> (try simp [B_iff, B_not] at c56))
    | (refine AW_block (id := 0) (AW_loop (ι := Nat) (fun n : Nat => ⟨(upd (upd (upd (upd (fun _ => .any) 2 (.box [.nil, .nil])) 3 (li cI a)) 4 (li cI b)) 5 (.int .i64 n)), fun _ => none⟩) (fun n => 1 ≤ n ∧ n ≤ b.length + 1 ∧ ∀ m, 1 ≤ m → m < n → ¬ Per b m) (fun n => b.length + 1 - n) (1) ?_ ?_ ?_); exact ⟨Nat.le_refl _, by omega, by omega⟩; ((repeat' (first | exact sub_noneH (by assumption) | exact sub_none | refine sub_upd ?_ ?_ | refine sub_noneE ?_)) <;> simp [-List.getD_eq_getElem?_getD, -List.drop_one, ↓splitB_true, ↓splitB_false, go_sem]); rintro n ⟨hn, hn1, hm⟩)
    | (refine ⟨n + 1, ⟨by omega, by omega, fun m m1 m2 => by rcases Nat.lt_or_ge m n with h | h; exact hm m m1 h; (obtain rfl : m = n := by omega); exact hnp⟩, by first | omega | (simp; done) | (simp; omega), ?_⟩; ((repeat' (first | exact sub_noneH (by assumption) | exact sub_none | refine sub_upd ?_ ?_ | refine sub_noneE ?_)) <;> simp [-List.getD_eq_getElem?_getD, -List.drop_one, ↓splitB_true, ↓splitB_false, go_sem]))
    | (refine AW_block (id := 2) (AW_loop (ι := Nat) (fun t : Nat => ⟨(upd (upd (upd (fun _ => .any) 2 (.box [.nil, .nil])) 3 (.list (a.length - t) (cat cI (a.take (a.length - t))))) 4 (.list n (cat cI (lp (b.take n) t)))), fun _ => none⟩) (fun t => (t < a.length ∨ t = a.length) ∧ ∀ u, u < t → More a (b.take n) u) (fun t => a.length - t) (0) ?_ ?_ ?_); exact ⟨by omega, by omega⟩; ((repeat' (first | exact sub_noneH (by assumption) | exact sub_none | refine sub_upd ?_ ?_ | refine sub_noneE ?_)) <;> simp [-List.getD_eq_getElem?_getD, -List.drop_one, ↓splitB_true, ↓splitB_false, go_sem, lp]); rintro t ⟨hlt | hlt, hmo⟩)
    | (refine ⟨t + 1, ⟨by omega, fun u hu => by rcases Nat.lt_or_ge u t with h | h; exact hmo u h; (obtain rfl : u = t := by omega); exact ⟨hlt, by rw [hcl]; exact c56⟩⟩, by first | omega | (simp; done) | (simp; omega), ?_⟩; ((repeat' (first | exact sub_noneH (by assumption) | exact sub_none | refine sub_upd ?_ ?_ | refine sub_noneE ?_)) <;> simp [-List.getD_eq_getElem?_getD, -List.drop_one, ↓splitB_true, ↓splitB_false, go_sem, lp, (show a.length - (t + 1) = a.length - t - 1 by omega)]))
    | (refine AW_block ?_)
    | (refine AW_exit ?_; simp [-List.getD_eq_getElem?_getD, -List.drop_one, ↓splitB_true, ↓splitB_false, go_sem])
    | (refine AW_skip ?_; simp [-List.getD_eq_getElem?_getD, -List.drop_one, ↓splitB_true, ↓splitB_false, go_sem])
    | (refine AW_ret ?_; simp [-List.getD_eq_getElem?_getD, -List.drop_one, ↓splitB_true, ↓splitB_false, go_sem, Try.results67])
    | (intro hx; change AW _ _ _ _ _ _)
    | (refine ⟨?_, ?_⟩ <;> change AW _ _ _ _ _ _)
    | (intro hx; refine ⟨fun hs => ?_, fun hs => ?_⟩)
    | (refine ⟨fun hs => ?_, fun hs => ?_⟩)
    | (refine ⟨?_, fun hs => ?_⟩; change AW _ _ _ _ _ _)
    | (refine ⟨fun hs => ?_, ?_⟩; rotate_left; change AW _ _ _ _ _ _; rotate_left)
    | (exfalso; refine per_last g4 ?_ hm; omega)))
  all_goals (first
    | (have hbk : back a (b.take n) = t := (back_at (by omega) hmo (fun h => c56 (by have := h.2; rwa [hcl] at this))); have e1 : redS a b = a.take (a.length - t) := (by rw [redS, hper, hbk]); have e2 : redL a b = lp (b.take n) t := (by rw [redL, hper, hbk]); simp [e1, e2, hll]; done)
    | (have hbk : back a (b.take n) = t := (back_at (by omega) hmo (fun h => by have := h.1; omega)); have e1 : redS a b = a.take (a.length - t) := (by rw [redS, hper, hbk]); have e2 : redL a b = lp (b.take n) t := (by rw [redL, hper, hbk]); simp [e1, e2, hll, (show a.length - t = 0 by omega)]; done)
    | skip)
noncomputable def reduced_pureC : Con := .pure fun
  | [.st [.list n_a c_a, .list n_b c_b]] => ((Is cI n_a c_a) ∧ (Is cI n_b c_b) ∧ (LasOk (de cI c_a) (de cI c_b)), .st [fr 1 cI (redS (de cI c_a) (de cI c_b)), fr 1 cI (redL (de cI c_a) (de cI c_b))])
  | _ => (False, .any)
attribute [go_sem] reduced_pureC
theorem reduced_pureC_ok : ConOk Try.prog 67 reduced_pureC := by
  refine ⟨callable Try.func67 (by decide) rfl, fun args h => ?_⟩
  revert h
  dsimp only
  split
  · intro h
    obtain ⟨⟨a, rfl, rfl⟩, ⟨b, rfl, rfl⟩, hL⟩ := h
    try simp only [de_cat] at *
    exact ⟨reduced_pure a b hL, by simp [go_sem]⟩
  · intro h
    exact h.elim
noncomputable def Γs29 : FuncId → Con := ext Γs28 67 reduced_pureC
attribute [go_sem] Γs29
theorem Γs29_ok : ∀ g, ConOk Try.prog g (Γs29 g) := ext_ok Γs28_ok reduced_pureC_ok
end Go.Proofs.Ytlbbhkpjjciaiaa.Vm

