/-
  Contracts of the functions on letters and valid lassos. No conditions but that the slices can be read.
-/
import Derived.Test.YtlbbhkpjjciaiaaPair
namespace Go.Proofs.Ytlbbhkpjjciaiaa
open Go.RowKit Go.Deep

set_option maxHeartbeats 400000 in
theorem in_any (w : World) (n lo hi : Int) :
    Calls Try.prog 66 #[.int .i64 n, .int .i64 lo, .int .i64 hi] w fun e w' => e = .returned (.bool (inR n lo hi)) ∧ w = w' := by
  by_cases h1 : n < lo
  · rw [inR_lo h1]
    go_enter Try.func66, Try.ntmps66
    go_wp2_with fail
    go_ret
    exact ⟨rfl, rfl⟩
  · by_cases h2 : hi < n
    · rw [inR_hi h2]
      go_enter Try.func66, Try.ntmps66
      go_wp2_with fail
      go_ret
      exact ⟨by first | rfl | (simp; omega), rfl⟩
    · rw [inR_yes (by omega) (by omega)]
      go_enter Try.func66, Try.ntmps66
      go_wp2_with fail
      go_ret
      exact ⟨by first | rfl | (simp; omega), rfl⟩

theorem letters1_any (w : World) (n : Int) :
    Calls Try.prog 85 #[.int .i64 n] w fun e w' => e = .returned (.bool (noLetter n)) ∧ w = w' := by
  go_enter Try.func85, Try.ntmps85
  go_wp2_with fail
  refine (in_any _ _ _ _).mono ?_
  rintro e w1 ⟨rfl, rfl⟩
  go_wp2_with fail
  go_ret
  exact ⟨rfl, rfl⟩

set_option maxHeartbeats 400000 in
theorem indexLetters_any (w : World) (v : Value) (xs : List Int) (h : IS w v xs) (hm : xs.length ≤ maxLen) :
    Calls Try.prog 92 #[v, (.func (.func 85) #[] #[])] w fun e w' => (∃ k : Int, e = .returned (.int .i64 k) ∧ decide (0 ≤ k) = anyB noLetter xs) ∧ w = w' := by
  obtain ⟨A, N, c, rfl, h1⟩ := h
  obtain rfl : N = xs.length := h1.1
  unfold maxLen at hm
  go_enter Try.func92, Try.ntmps92
  go_wp2_with fail
  go_loopw [8, 5] (fun i _ wr => ∃ k : Nat, k ≤ xs.length ∧ i = .int .i64 k ∧ NoneTill noLetter xs k ∧ SameW w wr) (fun i _ _ => xs.length - (intOf i).toNat)
  case atStart => exact ⟨0, Nat.zero_le _, rfl, NoneTill.zero _ _, SameW.rfl' _⟩
  case round =>
    obtain ⟨k, hk, rfl, ht, hsw⟩ := hrel
    obtain rfl : w = wr := hsw
    by_cases hlt : k < xs.length
    · obtain ⟨ad, rfl, hc1⟩ := h1.2 k hlt
      go_wp2_with fail
      refine (letters1_any _ (nth xs k)).mono ?_
      rintro e w1 ⟨rfl, rfl⟩
      cases hb : noLetter (nth xs k)
      · have HB := Lib.hid hb
        clear hb
        go_wp2_with fail
        exact ⟨⟨k + 1, by omega, by go_num, ht.succ HB.out, SameW.rfl' _⟩, by simp [intOf]; omega⟩
      · have HB := Lib.hid (anyB_yes hlt hb)
        clear hb
        go_wp2_with fail
        go_ret
        exact ⟨⟨_, rfl, by rw [HB.out]; simp⟩, rfl⟩
    · have HB := Lib.hid (anyB_no ht (by omega))
      go_wp2_with fail
      go_ret
      exact ⟨⟨_, rfl, by rw [HB.out]; simp⟩, rfl⟩

set_option maxHeartbeats 400000 in
theorem containsLetters_any (w : World) (v : Value) (xs : List Int) (h : IS w v xs) (hm : xs.length ≤ maxLen) :
    Calls Try.prog 84 #[v, (.func (.func 85) #[] #[])] w fun e w' => e = .returned (.bool (anyB noLetter xs)) ∧ w = w' := by
  go_enter Try.func84, Try.ntmps84
  go_wp2_with fail
  refine (indexLetters_any _ _ xs h hm).mono ?_
  rintro e w1 ⟨⟨k, rfl, hk⟩, rfl⟩
  have HK := Lib.hid hk
  clear hk
  go_wp2_with fail
  go_ret
  exact ⟨by rw [← HK.out]; rfl, rfl⟩

set_option maxHeartbeats 400000 in
theorem letters_any (w : World) (v : Value) (xs : List Int) (h : IS w v xs) (hm : xs.length ≤ maxLen) :
    Calls Try.prog 65 #[v] w fun e w' => e = .returned (.bool (lettersB xs)) ∧ w = w' := by
  go_enter Try.func65, Try.ntmps65
  go_wp2_with fail
  refine (containsLetters_any _ _ xs h hm).mono ?_
  rintro e w1 ⟨rfl, rfl⟩
  go_wp2_with fail
  go_ret
  exact ⟨rfl, rfl⟩

set_option maxHeartbeats 400000 in
theorem l6Letters_any (w : World) (v : Value) (xs : List Int) (h : IS w v xs) (hm : xs.length ≤ maxLen) :
    Calls Try.prog 70 #[v] w fun e w' => e = .returned (.bool (lettersB xs)) ∧ w = w' := by
  obtain ⟨A, N, c, rfl, h1⟩ := h
  obtain rfl : N = xs.length := h1.1
  unfold maxLen at hm
  go_enter Try.func70, Try.ntmps70
  go_wp2_with fail
  go_loopw [3] (fun i wr => ∃ k : Nat, k ≤ xs.length ∧ i = .int .i64 k ∧ NoneTill noLetter xs k ∧ SameW w wr) (fun i _ => xs.length - (intOf i).toNat)
  case atStart => exact ⟨0, Nat.zero_le _, rfl, NoneTill.zero _ _, SameW.rfl' _⟩
  case round =>
    obtain ⟨k, hk, rfl, ht, hsw⟩ := hrel
    obtain rfl : w = wr := hsw
    by_cases hlt : k < xs.length
    · obtain ⟨ad, rfl, hc1⟩ := h1.2 k hlt
      by_cases ha : nth xs k < 0
      · have HB := Lib.hid (anyB_yes (p := noLetter) hlt (by rw [noLetter, inR_lo ha]; rfl))
        go_wp2_with fail
        go_ret
        exact ⟨by rw [lettersB, HB.out]; rfl, rfl⟩
      · by_cases hb : 7 < nth xs k
        · have HB := Lib.hid (anyB_yes (p := noLetter) hlt (by rw [noLetter, inR_hi hb]; rfl))
          go_wp2_with fail
          go_ret
          exact ⟨by rw [lettersB, HB.out]; rfl, rfl⟩
        · have HB := Lib.hid (ht.succ (by rw [noLetter, inR_yes (by omega) (by omega)]; rfl))
          go_wp2_with fail
          exact ⟨⟨k + 1, by omega, by go_num, HB.out, SameW.rfl' _⟩, by simp [intOf]; omega⟩
    · have HB := Lib.hid (anyB_no ht (by omega))
      go_wp2_with fail
      go_ret
      exact ⟨by rw [lettersB, HB.out]; rfl, rfl⟩

set_option maxHeartbeats 400000 in
theorem specLassoValid_any (w : World) (v : Value) (x : Ints2) (h : PS w v x) (hm : x.1.length ≤ maxLen) (hm2 : x.2.length ≤ maxLen) :
    Calls Try.prog 42 #[v] w fun e w' => e = .returned (.bool (lassoOk x)) ∧ Gr w w' := by
  obtain ⟨s1, s2, rfl, h1, h2⟩ := h
  obtain ⟨A, N, c, rfl, i1⟩ := h1
  obtain ⟨B, M, d, rfl, i2⟩ := h2
  obtain ⟨xs, ys⟩ := x
  dsimp only at i1 i2 hm hm2
  obtain rfl : N = xs.length := i1.1
  obtain rfl : M = ys.length := i2.1
  have G0 := Lib.hid ((Gr.refl w).alloc (.cells #[.slice A xs.length c, .slice B ys.length d] 33))
  have I1 : IS _ (.slice A xs.length c) xs := ⟨_, _, _, rfl, i1.gr G0.out⟩
  have I2 : IS _ (.slice B ys.length d) ys := ⟨_, _, _, rfl, i2.gr G0.out⟩
  clear i1 i2
  cases hb : lettersB xs
  · have HB := Lib.hid hb
    clear hb
    go_enter Try.func42, Try.ntmps42
    go_wp2_with fail
    refine (l6Letters_any _ _ xs I1 hm).mono ?_
    rintro e w1 ⟨rfl, rfl⟩
    rw [HB.out]
    go_wp2_with fail
    go_ret
    exact ⟨by simp [lassoOk, HB.out], G0.out⟩
  · have HB := Lib.hid hb
    clear hb
    cases hb2 : lettersB ys
    · have HB2 := Lib.hid hb2
      clear hb2
      go_enter Try.func42, Try.ntmps42
      go_wp2_with fail
      refine (l6Letters_any _ _ xs I1 hm).mono ?_
      rintro e w1 ⟨rfl, rfl⟩
      rw [HB.out]
      go_wp2_with fail
      refine (l6Letters_any _ _ ys I2 hm2).mono ?_
      rintro e w1 ⟨rfl, rfl⟩
      rw [HB2.out]
      go_wp2_with fail
      go_ret
      exact ⟨by simp [lassoOk, HB2.out], G0.out⟩
    · have HB2 := Lib.hid hb2
      clear hb2
      by_cases q1 : xs.length ≤ 80
      · by_cases q2 : 1 ≤ ys.length
        · by_cases q3 : ys.length ≤ 80
          · go_enter Try.func42, Try.ntmps42
            go_wp2_with fail
            refine (l6Letters_any _ _ xs I1 hm).mono ?_
            rintro e w1 ⟨rfl, rfl⟩
            rw [HB.out]
            go_wp2_with fail
            refine (l6Letters_any _ _ ys I2 hm2).mono ?_
            rintro e w1 ⟨rfl, rfl⟩
            rw [HB2.out]
            go_wp2_with fail
            go_ret
            exact ⟨by simp [lassoOk, HB.out, HB2.out, q1, q2, q3]; omega, G0.out⟩
          · go_enter Try.func42, Try.ntmps42
            go_wp2_with fail
            refine (l6Letters_any _ _ xs I1 hm).mono ?_
            rintro e w1 ⟨rfl, rfl⟩
            rw [HB.out]
            go_wp2_with fail
            refine (l6Letters_any _ _ ys I2 hm2).mono ?_
            rintro e w1 ⟨rfl, rfl⟩
            rw [HB2.out]
            go_wp2_with fail
            go_ret
            exact ⟨by simp [lassoOk, q3]; omega, G0.out⟩
        · go_enter Try.func42, Try.ntmps42
          go_wp2_with fail
          refine (l6Letters_any _ _ xs I1 hm).mono ?_
          rintro e w1 ⟨rfl, rfl⟩
          rw [HB.out]
          go_wp2_with fail
          refine (l6Letters_any _ _ ys I2 hm2).mono ?_
          rintro e w1 ⟨rfl, rfl⟩
          rw [HB2.out]
          go_wp2_with fail
          go_ret
          exact ⟨by simp [lassoOk, q2], G0.out⟩
      · go_enter Try.func42, Try.ntmps42
        go_wp2_with fail
        refine (l6Letters_any _ _ xs I1 hm).mono ?_
        rintro e w1 ⟨rfl, rfl⟩
        rw [HB.out]
        go_wp2_with fail
        refine (l6Letters_any _ _ ys I2 hm2).mono ?_
        rintro e w1 ⟨rfl, rfl⟩
        rw [HB2.out]
        go_wp2_with fail
        go_ret
        exact ⟨by simp [lassoOk, q1], G0.out⟩

set_option maxHeartbeats 400000 in
theorem implLassoValid_any (w : World) (v : Value) (x : Ints2) (h : PS w v x) (hm : x.1.length ≤ maxLen) (hm2 : x.2.length ≤ maxLen) :
    Calls Try.prog 35 #[v] w fun e w' => e = .returned (.bool (lassoOk x)) ∧ Gr w w' := by
  obtain ⟨s1, s2, rfl, h1, h2⟩ := h
  obtain ⟨A, N, c, rfl, i1⟩ := h1
  obtain ⟨B, M, d, rfl, i2⟩ := h2
  obtain ⟨xs, ys⟩ := x
  dsimp only at i1 i2 hm hm2
  obtain rfl : N = xs.length := i1.1
  obtain rfl : M = ys.length := i2.1
  have G0 := Lib.hid ((Gr.refl w).alloc (.cells #[.slice A xs.length c, .slice B ys.length d] 33))
  have I1 : IS _ (.slice A xs.length c) xs := ⟨_, _, _, rfl, i1.gr G0.out⟩
  have I2 : IS _ (.slice B ys.length d) ys := ⟨_, _, _, rfl, i2.gr G0.out⟩
  clear i1 i2
  cases hb : lettersB xs
  · have HB := Lib.hid hb
    clear hb
    go_enter Try.func35, Try.ntmps35
    go_wp2_with fail
    refine (letters_any _ _ xs I1 hm).mono ?_
    rintro e w1 ⟨rfl, rfl⟩
    rw [HB.out]
    go_wp2_with fail
    go_ret
    exact ⟨by simp [lassoOk, HB.out], G0.out⟩
  · have HB := Lib.hid hb
    clear hb
    cases hb2 : lettersB ys
    · have HB2 := Lib.hid hb2
      clear hb2
      go_enter Try.func35, Try.ntmps35
      go_wp2_with fail
      refine (letters_any _ _ xs I1 hm).mono ?_
      rintro e w1 ⟨rfl, rfl⟩
      rw [HB.out]
      go_wp2_with fail
      refine (letters_any _ _ ys I2 hm2).mono ?_
      rintro e w1 ⟨rfl, rfl⟩
      rw [HB2.out]
      go_wp2_with fail
      go_ret
      exact ⟨by simp [lassoOk, HB2.out], G0.out⟩
    · have HB2 := Lib.hid hb2
      clear hb2
      by_cases q1 : xs.length ≤ 80
      · by_cases q2 : 1 ≤ ys.length
        · by_cases q3 : ys.length ≤ 80
          · go_enter Try.func35, Try.ntmps35
            go_wp2_with fail
            refine (letters_any _ _ xs I1 hm).mono ?_
            rintro e w1 ⟨rfl, rfl⟩
            rw [HB.out]
            go_wp2_with fail
            refine (letters_any _ _ ys I2 hm2).mono ?_
            rintro e w1 ⟨rfl, rfl⟩
            rw [HB2.out]
            go_wp2_with fail
            all_goals (try (refine (in_any _ _ _ _).mono ?_; rintro e w1 ⟨rfl, rfl⟩; go_wp2_with fail))
            go_ret
            exact ⟨by simp [lassoOk, HB.out, HB2.out, q1, q2, q3, inR]; omega, G0.out⟩
          · go_enter Try.func35, Try.ntmps35
            go_wp2_with fail
            refine (letters_any _ _ xs I1 hm).mono ?_
            rintro e w1 ⟨rfl, rfl⟩
            rw [HB.out]
            go_wp2_with fail
            refine (letters_any _ _ ys I2 hm2).mono ?_
            rintro e w1 ⟨rfl, rfl⟩
            rw [HB2.out]
            go_wp2_with fail
            all_goals (try (refine (in_any _ _ _ _).mono ?_; rintro e w1 ⟨rfl, rfl⟩; go_wp2_with fail))
            go_ret
            exact ⟨by simp [lassoOk, q3, inR]; omega, G0.out⟩
        · go_enter Try.func35, Try.ntmps35
          go_wp2_with fail
          refine (letters_any _ _ xs I1 hm).mono ?_
          rintro e w1 ⟨rfl, rfl⟩
          rw [HB.out]
          go_wp2_with fail
          refine (letters_any _ _ ys I2 hm2).mono ?_
          rintro e w1 ⟨rfl, rfl⟩
          rw [HB2.out]
          go_wp2_with fail
          all_goals (try (refine (in_any _ _ _ _).mono ?_; rintro e w1 ⟨rfl, rfl⟩; go_wp2_with fail))
          go_ret
          exact ⟨by simp [lassoOk, q2, inR]; omega, G0.out⟩
      · go_enter Try.func35, Try.ntmps35
        go_wp2_with fail
        refine (letters_any _ _ xs I1 hm).mono ?_
        rintro e w1 ⟨rfl, rfl⟩
        rw [HB.out]
        go_wp2_with fail
        refine (letters_any _ _ ys I2 hm2).mono ?_
        rintro e w1 ⟨rfl, rfl⟩
        rw [HB2.out]
        go_wp2_with fail
        all_goals (try (refine (in_any _ _ _ _).mono ?_; rintro e w1 ⟨rfl, rfl⟩; go_wp2_with fail))
        go_ret
        exact ⟨by simp [lassoOk, q1], G0.out⟩

end Go.Proofs.Ytlbbhkpjjciaiaa

