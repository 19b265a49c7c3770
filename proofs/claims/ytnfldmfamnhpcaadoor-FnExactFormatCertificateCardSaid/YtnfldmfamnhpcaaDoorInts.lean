/-
  Contracts of the functions over slices of integers. No conditions but that the slices can be read.
-/
import Derived.Test.YtnfldmfamnhpcaaDoorRows
import Derived.Test.YtnfldmfamnhpcaaDoorLib
namespace Go.Proofs.YtnfldmfamnhpcaaDoor
open Go.RowKit Go.Deep

theorem infoInt : (Tryd.prog.info? 3).map (fun i => (i.zero, i.size, i.bytes)) = some (some (.int .i64 0), 1, 8) := by kernel_rfl

set_option maxHeartbeats 400000 in
theorem eqIntS_any (w : World) (v1 v2 : Value) (xs ys : List Int) (h1 : IS w v1 xs) (h2 : IS w v2 ys) (hm : xs.length ≤ 1048576) :
    Calls Tryd.prog 27 #[v1, v2] w fun e w' => e = .returned (.bool (eqB xs ys)) ∧ ∃ n, w' = w.drewN n := by
  obtain ⟨A, N, c, rfl, h1⟩ := h1
  obtain ⟨B, M, d, rfl, h2⟩ := h2
  have hm : N ≤ 1048576 := by have := h1.1; omega
  by_cases hl : N = M
  · subst hl
    go_enter Tryd.func27, Tryd.ntmps27
    go_wp2
    go_loopw [5] (fun i wr => ∃ k n : Nat, k ≤ N ∧ i = .int .i64 k ∧ Agree k xs ys ∧ wr = w.drewN n) (fun i _ => N - (intOf i).toNat)
    case atStart => exact ⟨0, 0, Nat.zero_le _, rfl, Agree.zero _ _, rfl⟩
    case round =>
      obtain ⟨k, n, hk, rfl, ht, rfl⟩ := hrel
      by_cases hlt : k < N
      · obtain ⟨ad, rfl, hc1⟩ := h1.2 k hlt
        obtain ⟨ad2, rfl, hc2⟩ := h2.2 k hlt
        by_cases he : nth xs k = nth ys k
        · have hb : (nth xs k != nth ys k) = false := by simpa using he
          have HE := Lib.hid he
          clear he
          go_wp2
          go_quiet (fail)
          go_wp2
          exact ⟨⟨k + 1, _, by omega, by go_num, ht.succ HE.out, rfl⟩, by simp [intOf]; omega⟩
        · have hb : (nth xs k != nth ys k) = true := by simpa using he
          have hne : xs ≠ ys := by rintro rfl; exact he rfl
          go_wp2
          go_quiet (fail)
          go_wp2
          go_ret
          exact ⟨by rw [eqB_ne hne]; rfl, n + nq, by simp⟩
      · have hk' : k = N := by omega
        have he : xs = ys := by rw [hk', h1.1] at ht; exact ht.all (h1.1.symm.trans h2.1)
        have HE := Lib.hid he
        clear he hk'
        go_wp2
        go_ret
        exact ⟨by rw [HE.out, eqB_self]; rfl, n, rfl⟩
  · have hne : xs ≠ ys := by rintro rfl; exact hl (h1.1.trans h2.1.symm)
    go_enter Tryd.func27, Tryd.ntmps27
    go_wp2
    go_ret
    exact ⟨by rw [eqB_ne hne]; rfl, 0, rfl⟩

set_option maxHeartbeats 400000 in
theorem l2Ints_any (w : World) (v1 v2 : Value) (xs ys : List Int) (h1 : IS w v1 xs) (h2 : IS w v2 ys) (hm : xs.length ≤ 1048576) :
    Calls Tryd.prog 45 #[v1, v2] w fun e w' => e = .returned (.bool (eqB xs ys)) ∧ ∃ n, w' = w.drewN n := by
  obtain ⟨A, N, c, rfl, h1⟩ := h1
  obtain ⟨B, M, d, rfl, h2⟩ := h2
  have hm : N ≤ 1048576 := by have := h1.1; omega
  by_cases hl : N = M
  · subst hl
    go_enter Tryd.func45, Tryd.ntmps45
    go_wp2
    go_loopw [5] (fun i wr => ∃ k n : Nat, k ≤ N ∧ i = .int .i64 k ∧ Agree k xs ys ∧ wr = w.drewN n) (fun i _ => N - (intOf i).toNat)
    case atStart => exact ⟨0, 0, Nat.zero_le _, rfl, Agree.zero _ _, rfl⟩
    case round =>
      obtain ⟨k, n, hk, rfl, ht, rfl⟩ := hrel
      by_cases hlt : k < N
      · obtain ⟨ad, rfl, hc1⟩ := h1.2 k hlt
        obtain ⟨ad2, rfl, hc2⟩ := h2.2 k hlt
        by_cases he : nth xs k = nth ys k
        · have hb : (nth xs k != nth ys k) = false := by simpa using he
          have HE := Lib.hid he
          clear he
          go_wp2
          go_quiet (fail)
          go_wp2
          exact ⟨⟨k + 1, _, by omega, by go_num, ht.succ HE.out, rfl⟩, by simp [intOf]; omega⟩
        · have hb : (nth xs k != nth ys k) = true := by simpa using he
          have hne : xs ≠ ys := by rintro rfl; exact he rfl
          go_wp2
          go_quiet (fail)
          go_wp2
          go_ret
          exact ⟨by rw [eqB_ne hne]; rfl, n + nq, by simp⟩
      · have hk' : k = N := by omega
        have he : xs = ys := by rw [hk', h1.1] at ht; exact ht.all (h1.1.symm.trans h2.1)
        have HE := Lib.hid he
        clear he hk'
        go_wp2
        go_ret
        exact ⟨by rw [HE.out, eqB_self]; rfl, n, rfl⟩
  · have hne : xs ≠ ys := by rintro rfl; exact hl (h1.1.trans h2.1.symm)
    go_enter Tryd.func45, Tryd.ntmps45
    go_wp2
    go_ret
    exact ⟨by rw [eqB_ne hne]; rfl, 0, rfl⟩

set_option maxHeartbeats 400000 in
theorem slicesEqual_any (w : World) (v1 v2 : Value) (xs ys : List Int) (h1 : IS w v1 xs) (h2 : IS w v2 ys) (hm : xs.length ≤ 1048576) :
    Calls Tryd.prog 42 #[v1, v2] w fun e w' => e = .returned (.bool (eqB xs ys)) ∧ ∃ n, w' = w.drewN n := by
  obtain ⟨A, N, c, rfl, h1⟩ := h1
  obtain ⟨B, M, d, rfl, h2⟩ := h2
  have hm : N ≤ 1048576 := by have := h1.1; omega
  by_cases hl : N = M
  · subst hl
    go_enter Tryd.func42, Tryd.ntmps42
    go_wp2
    go_loopw [13, 5] (fun i _ wr => ∃ k n : Nat, k ≤ N ∧ i = .int .i64 k ∧ Agree k xs ys ∧ wr = w.drewN n) (fun i _ _ => N - (intOf i).toNat)
    case atStart => exact ⟨0, 0, Nat.zero_le _, rfl, Agree.zero _ _, rfl⟩
    case round =>
      obtain ⟨k, n, hk, rfl, ht, rfl⟩ := hrel
      by_cases hlt : k < N
      · obtain ⟨ad, rfl, hc1⟩ := h1.2 k hlt
        obtain ⟨ad2, rfl, hc2⟩ := h2.2 k hlt
        by_cases he : nth xs k = nth ys k
        · have hb : (nth xs k != nth ys k) = false := by simpa using he
          have HE := Lib.hid he
          clear he
          go_wp2
          go_quiet (fail)
          go_wp2
          exact ⟨⟨k + 1, _, by omega, by go_num, ht.succ HE.out, rfl⟩, by simp [intOf]; omega⟩
        · have hb : (nth xs k != nth ys k) = true := by simpa using he
          have hne : xs ≠ ys := by rintro rfl; exact he rfl
          go_wp2
          go_quiet (fail)
          go_wp2
          go_ret
          exact ⟨by rw [eqB_ne hne]; rfl, n + nq, by simp⟩
      · have hk' : k = N := by omega
        have he : xs = ys := by rw [hk', h1.1] at ht; exact ht.all (h1.1.symm.trans h2.1)
        have HE := Lib.hid he
        clear he hk'
        go_wp2
        go_ret
        exact ⟨by rw [HE.out, eqB_self]; rfl, n, rfl⟩
  · have hne : xs ≠ ys := by rintro rfl; exact hl (h1.1.trans h2.1.symm)
    go_enter Tryd.func42, Tryd.ntmps42
    go_wp2
    go_ret
    exact ⟨by rw [eqB_ne hne]; rfl, 0, rfl⟩

set_option maxHeartbeats 400000 in
theorem szIntS_any (w : World) (v : Value) (xs : List Int) (left : Int) (h : IS w v xs) (hl : 0 ≤ left) (hl' : left ≤ 1048576) (hm : xs.length ≤ maxLen) :
    Calls Tryd.prog 19 #[v, .int .i64 left] w fun e w' => e = .returned (.int .i64 (szOf left xs.length)) ∧ w = w' := by
  obtain ⟨A, N, c, rfl, h1⟩ := h
  obtain rfl : N = xs.length := h1.1
  clear h1
  unfold maxLen at hm
  by_cases h : left - xs.length < 0
  · go_enter Tryd.func19, Tryd.ntmps19
    go_wp2
    go_ret
    exact ⟨by rw [szOf_no (by omega)]; rfl, rfl⟩
  · go_enter Tryd.func19, Tryd.ntmps19
    go_wp2
    go_ret
    exact ⟨by rw [szOf_yes (by omega)]; rfl, rfl⟩

set_option maxHeartbeats 400000 in
theorem toIntS_any (w : World) (v : Value) (xs : List Int) (h : IS w v xs) (hm : xs.length ≤ 1048576) :
    Calls Tryd.prog 22 #[v] w (NewInts 3 w xs) := by
  obtain ⟨A, N, c, rfl, h1⟩ := h
  obtain rfl : N = xs.length := h1.1
  have hmk := run_make_row' (P := Tryd.prog) 22 3 (.int .i64 0) 8 Tryd.underlying22 infoInt rfl .i64 .i64 xs.length (by omega) (by omega)
  go_enter Tryd.func22, Tryd.ntmps22
  go_wp2
  go_loopw [4] (fun i wr => ∃ k : Nat, k ≤ xs.length ∧ i = .int .i64 k ∧ Filled 3 w wr xs k) (fun i _ => xs.length - (intOf i).toNat)
  case atStart => exact ⟨0, Nat.zero_le _, rfl, Filled.zero _ _ _⟩
  case round =>
    obtain ⟨k, hk, rfl, ht⟩ := hrel
    by_cases hlt : k < xs.length
    · obtain ⟨ad, rfl, hc1⟩ := h1.2 k hlt
      have hc2 := ht.1.cell hc1
      have hc3 := ht.2.2.cell hlt
      have hf3 := ht.2.2.frozen k
      rw [if_neg (Nat.lt_irrefl _)] at hc3
      go_wp2
      exact ⟨⟨k + 1, by omega, by go_num, ht.succ⟩, by simp [intOf]; omega⟩
    · go_wp2
      go_ret
      exact ht.done (by omega)
end Go.Proofs.YtnfldmfamnhpcaaDoor

