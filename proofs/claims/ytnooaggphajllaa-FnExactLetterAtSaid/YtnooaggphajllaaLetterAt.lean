/-
  Contracts of LetterAt, the program's and the reference's. No conditions but that the lasso can be read.
-/
import Derived.Test.YtnooaggphajllaaLetters
import Derived.OpenShut
namespace Go.Proofs.Ytnooaggphajllaa
open Go.RowKit Go.Deep

set_option maxHeartbeats 400000 in
theorem l6Index_any (w : World) (v : Value) (x : Ints2) (i : Nat) (h : PS w v x) (hk : lassoOk x = true) (hi : i ≤ 9223372036854775807) :
    Calls Try.prog 75 #[v, .int .i64 i] w fun e w' => e = .returned (.int .i64 (if i < x.1.length then i else x.1.length + (i - x.1.length) % x.2.length : Nat)) ∧ Gr w w' := by
  obtain ⟨s1, s2, rfl, h1, h2⟩ := h
  obtain ⟨A, N, c, rfl, i1⟩ := h1
  obtain ⟨B, M, d, rfl, i2⟩ := h2
  obtain ⟨xs, ys⟩ := x
  dsimp only at i1 i2 ⊢
  obtain rfl : N = xs.length := i1.1
  obtain rfl : M = ys.length := i2.1
  obtain ⟨l1, l2, l3⟩ := lassoOk_len hk
  dsimp only at l1 l2 l3
  clear i1 i2 hk
  have G0 := Lib.hid ((Gr.refl w).alloc (.cells #[.slice A xs.length c, .slice B ys.length d] 36))
  by_cases hlt : i < xs.length
  · rw [if_pos hlt]
    go_enter Try.func75, Try.ntmps75
    go_wp2_with fail
    go_ret
    exact ⟨rfl, G0.out⟩
  · rw [if_neg hlt]
    have r0 : (0 : Int) ≤ ((i : Int) - xs.length) % ys.length := Int.emod_nonneg _ (by omega)
    have r1 : ((i : Int) - xs.length) % ys.length < ys.length := Int.emod_lt_of_pos _ (by omega)
    go_enter Try.func75, Try.ntmps75
    go_wp2_with fail
    go_quiet (fail)
    go_wp2_with fail
    go_ret
    refine ⟨?_, G0.out.drewN _⟩
    show Ending.returned (.int .i64 _) = Ending.returned (.int .i64 _)
    congr 2
    rw [Int.natCast_add, Int.natCast_emod, Int.natCast_sub (by omega)]

set_option maxHeartbeats 400000 in
theorem specLetterAt_any (w : World) (v : Value) (x : Ints2) (i : Int) (h : PS w v x) (hi' : (Lit.int .i64 i).wf = true) (hm : x.1.length ≤ maxLen) (hm2 : x.2.length ≤ maxLen) :
    Calls Try.prog 47 #[v, .int .i64 i] w fun e w' => e = .returned (.tuple #[.int .i64 (letterAt x i), .bool (letterOk x i)]) ∧ Gr w w' := by
  have hi : i ≤ 9223372036854775807 := by have := bounds_i64 hi'; omega
  clear hi'
  obtain ⟨s1, s2, rfl, h1, h2⟩ := h
  obtain ⟨A, N, c, rfl, i1⟩ := h1
  obtain ⟨B, M, d, rfl, i2⟩ := h2
  have G0 := Lib.hid ((Gr.refl w).alloc (.cells #[.slice A N c, .slice B M d] 36))
  have hx : PS (w.alloc (.cells #[.slice A N c, .slice B M d] 36)) (.agg #[.slice A N c, .slice B M d]) x := ⟨_, _, rfl, ⟨_, _, _, rfl, i1.gr G0.out⟩, ⟨_, _, _, rfl, i2.gr G0.out⟩⟩
  have b0 := Box.new (w := w) (k := w.heap.size) (cs := #[.slice A N c, .slice B M d]) (t := 36) rfl
  cases hk : lassoOk x
  · have O := Lib.hid (letterOk_no (i := i) hk)
    have HK := Lib.hid hk
    clear hk
    go_enter Try.func47, Try.ntmps47
    go_wp2_with fail
    refine (specLassoValid_any _ _ x hx hm hm2).mono ?_
    rintro e w1 ⟨rfl, hg⟩
    rw [HK.out]
    go_wp2_with fail
    go_ret2
    exact ⟨by rw [letterAt_no O.out, O.out]; rfl, G0.out.trans hg⟩
  · have HK := Lib.hid hk
    clear hk
    by_cases h0 : i < 0
    · have O := Lib.hid (letterOk_neg (x := x) h0)
      go_enter Try.func47, Try.ntmps47
      go_wp2_with fail
      refine (specLassoValid_any _ _ x hx hm hm2).mono ?_
      rintro e w1 ⟨rfl, hg⟩
      rw [HK.out]
      go_wp2_with fail
      go_ret2
      exact ⟨by rw [letterAt_no O.out, O.out]; rfl, G0.out.trans hg⟩
    · obtain ⟨i, rfl⟩ := Int.eq_ofNat_of_zero_le (by omega : 0 ≤ i)
      have O := Lib.hid (letterOk_yes HK.out (by omega : 0 ≤ (i : Int)))
      go_enter Try.func47, Try.ntmps47
      go_wp2_with fail
      refine (specLassoValid_any _ _ x hx hm hm2).mono ?_
      rintro e w1 ⟨rfl, hg⟩
      rw [HK.out]
      have G1 := Lib.hid (G0.out.trans hg)
      have hx1 := hx.gr hg
      replace b0 := b0.gr hg
      have c0 := b0.c
      clear hx hg
      go_wp2_with fail
      refine (l6Index_any _ _ x i hx1 HK.out (by omega)).mono ?_
      rintro e w2 ⟨rfl, hg⟩
      have G2 := Lib.hid (G1.out.trans hg)
      replace b0 := b0.gr hg
      clear c0 hg G0 G1 hx1
      have c0 := b0.c
      obtain ⟨xs, ys⟩ := x
      dsimp only at i1 i2 ⊢
      obtain rfl : N = xs.length := i1.1
      obtain rfl : M = ys.length := i2.1
      obtain ⟨l1, l2, l3⟩ := lassoOk_len HK.out
      dsimp only at l1 l2 l3
      have i1' := i1.gr G2.out
      have i2' := i2.gr G2.out
      clear i1 i2
      by_cases hlt : i < xs.length
      · have E := Lib.hid (letterAt_stem O.out hlt)
        rw [if_pos hlt]
        obtain ⟨ad, rfl, hc⟩ := i1'.2 i hlt
        go_wp2_with fail
        go_ret2
        exact ⟨by rw [E.out, O.out]; rfl, G2.out⟩
      · obtain ⟨k, hk⟩ : ∃ k, k = (i - xs.length) % ys.length := ⟨_, rfl⟩
        have E := Lib.hid (letterAt_loop O.out (by dsimp only; omega) hk)
        rw [if_neg hlt, ← hk]
        have hkl : k < ys.length := by rw [hk]; exact Nat.mod_lt _ (by omega)
        clear hk
        obtain ⟨ad, rfl, hc⟩ := i2'.2 k hkl
        go_wp2_with fail
        go_ret2
        exact ⟨by rw [E.out, O.out]; rfl, G2.out⟩

set_option maxHeartbeats 400000 in
theorem implLetterAt_any (w : World) (v : Value) (x : Ints2) (i : Int) (h : PS w v x) (hi' : (Lit.int .i64 i).wf = true) (hm : x.1.length ≤ maxLen) (hm2 : x.2.length ≤ maxLen) :
    Calls Try.prog 48 #[v, .int .i64 i] w fun e w' => e = .returned (.tuple #[.int .i64 (letterAt x i), .bool (letterOk x i)]) ∧ Gr w w' := by
  have hi : i ≤ 9223372036854775807 := by have := bounds_i64 hi'; omega
  clear hi'
  obtain ⟨s1, s2, rfl, h1, h2⟩ := h
  obtain ⟨A, N, c, rfl, i1⟩ := h1
  obtain ⟨B, M, d, rfl, i2⟩ := h2
  have G0 := Lib.hid ((Gr.refl w).alloc (.cells #[.slice A N c, .slice B M d] 36))
  have hx : PS (w.alloc (.cells #[.slice A N c, .slice B M d] 36)) (.agg #[.slice A N c, .slice B M d]) x := ⟨_, _, rfl, ⟨_, _, _, rfl, i1.gr G0.out⟩, ⟨_, _, _, rfl, i2.gr G0.out⟩⟩
  have b0 := Box.new (w := w) (k := w.heap.size) (cs := #[.slice A N c, .slice B M d]) (t := 36) rfl
  cases hk : lassoOk x
  · have O := Lib.hid (letterOk_no (i := i) hk)
    have HK := Lib.hid hk
    clear hk
    go_enter Try.func48, Try.ntmps48
    go_wp2_with fail
    refine (implLassoValid_any _ _ x hx hm hm2).mono ?_
    rintro e w1 ⟨rfl, hg⟩
    rw [HK.out]
    go_wp2_with fail
    go_ret2
    exact ⟨by rw [letterAt_no O.out, O.out]; rfl, G0.out.trans hg⟩
  · have HK := Lib.hid hk
    clear hk
    by_cases h0 : i < 0
    · have O := Lib.hid (letterOk_neg (x := x) h0)
      go_enter Try.func48, Try.ntmps48
      go_wp2_with fail
      refine (implLassoValid_any _ _ x hx hm hm2).mono ?_
      rintro e w1 ⟨rfl, hg⟩
      rw [HK.out]
      go_wp2_with fail
      go_ret2
      exact ⟨by rw [letterAt_no O.out, O.out]; rfl, G0.out.trans hg⟩
    · obtain ⟨i, rfl⟩ := Int.eq_ofNat_of_zero_le (by omega : 0 ≤ i)
      have O := Lib.hid (letterOk_yes HK.out (by omega : 0 ≤ (i : Int)))
      go_enter Try.func48, Try.ntmps48
      go_wp2_with fail
      refine (implLassoValid_any _ _ x hx hm hm2).mono ?_
      rintro e w1 ⟨rfl, hg⟩
      rw [HK.out]
      have G2 := Lib.hid (G0.out.trans hg)
      replace b0 := b0.gr hg
      have c0 := b0.c
      clear hx hg G0
      obtain ⟨xs, ys⟩ := x
      dsimp only at i1 i2 ⊢
      obtain rfl : N = xs.length := i1.1
      obtain rfl : M = ys.length := i2.1
      obtain ⟨l1, l2, l3⟩ := lassoOk_len HK.out
      dsimp only at l1 l2 l3
      have i1' := i1.gr G2.out
      have i2' := i2.gr G2.out
      clear i1 i2
      by_cases hlt : i < xs.length
      · have E := Lib.hid (letterAt_stem O.out hlt)
        obtain ⟨ad, rfl, hc⟩ := i1'.2 i hlt
        go_wp2_with fail
        go_ret2
        exact ⟨by rw [E.out, O.out]; rfl, G2.out⟩
      · obtain ⟨k, hk⟩ : ∃ k, k = (i - xs.length) % ys.length := ⟨_, rfl⟩
        have E := Lib.hid (letterAt_loop O.out (by dsimp only; omega) hk)
        have hkl : k < ys.length := by rw [hk]; exact Nat.mod_lt _ (by omega)
        have r0 : (0 : Int) ≤ ((i : Int) - xs.length) % ys.length := Int.emod_nonneg _ (by omega)
        have r1 : ((i : Int) - xs.length) % ys.length < ys.length := Int.emod_lt_of_pos _ (by omega)
        have r2 : ((i : Int) - xs.length) % ys.length = k := by rw [hk, Int.natCast_emod, Int.natCast_sub (by omega)]
        clear hk
        obtain ⟨ad, rfl, hc⟩ := i2'.2 k hkl
        go_wp2_with fail
        go_quiet (fail)
        go_wp2_with fail
        go_ret2
        exact ⟨by rw [E.out, O.out]; rfl, G2.out.drewN _⟩
end Go.Proofs.Ytnooaggphajllaa
