/-
  Contracts of FormatState and FormatLasso, the program's and the reference's. No conditions but that the slices can be read.
-/
import Derived.Test.YtlbbhkpjjciaiaaDigits
import Derived.Test.YtlbbhkpjjciaiaaPairs
namespace Go.Proofs.Ytlbbhkpjjciaiaa
open Go.RowKit Go.Deep
set_option linter.unusedVariables false

set_option maxRecDepth 100000 in
set_option maxHeartbeats 1000000 in
theorem specFormatState_any (w : World) (v : Value) (x : Ints2) (h : PS w v x) (hm : x.1.length ≤ 1048576) (hm2 : x.2.length ≤ 1048576) :
    Calls Try.prog 15 #[v] w fun e w' => e = .returned (.string (tx (fmtState x))) ∧ Gr w w' := by
  obtain ⟨s1, s2, rfl, h1, h2⟩ := h
  obtain ⟨xs, ys⟩ := x
  dsimp only at h1 h2 hm hm2
  have b0 := Box.new (w := w) (k := w.heap.size) (cs := #[s1, s2]) (t := 27) rfl
  have G0 := Lib.hid ((Gr.refl w).alloc (.cells #[s1, s2] 27))
  have l1 : (tx (digsT xs)).size ≤ 1048576 := by rw [tx_size]; have := digsT_len xs; omega
  have l2 : (tx (digsT ys)).size ≤ 1048576 := by rw [tx_size]; have := digsT_len ys; omega
  go_enter Try.func15, Try.ntmps15
  go_wp2_with fail
  refine (l3Digits_any _ _ xs (h1.gr G0.out) hm).mono ?_
  rintro e w1 ⟨rfl, hg⟩
  have c0 := (b0.gr hg).c
  have b1 := b0.gr hg
  have G1 := Lib.hid (G0.out.trans hg)
  clear hg b0
  go_wp2_with fail
  refine (l3Digits_any _ _ ys (h2.gr G1.out) hm2).mono ?_
  rintro e w2 ⟨rfl, hg⟩
  have G2 := Lib.hid (G1.out.trans hg)
  clear hg c0
  cases hx : digsOk xs
  · have HX := Lib.hid hx
    clear hx
    go_wp2_with fail
    go_ret
    exact ⟨by rw [fmtState_no (by simp [HX.out])]; rfl, G2.out⟩
  · have HX := Lib.hid hx
    clear hx
    cases hy : digsOk ys
    · have HY := Lib.hid hy
      clear hy
      go_wp2_with fail
      go_ret
      exact ⟨by rw [fmtState_no (by simp [HY.out])]; rfl, G2.out⟩
    · have HY := Lib.hid hy
      clear hy
      go_wp2_with fail
      go_ret
      exact ⟨by rw [fmtState_yes (x := (xs, ys)) HX.out HY.out, ← tx_add, ← tx_add]; rfl, G2.out⟩

set_option maxRecDepth 100000 in
set_option maxHeartbeats 1000000 in
theorem implFormatState_any (w : World) (v : Value) (x : Ints2) (h : PS w v x) (hm : x.1.length ≤ 1048576) (hm2 : x.2.length ≤ 1048576) :
    Calls Try.prog 17 #[v] w fun e w' => e = .returned (.string (tx (fmtState x))) ∧ Gr w w' := by
  obtain ⟨s1, s2, rfl, h1, h2⟩ := h
  obtain ⟨xs, ys⟩ := x
  dsimp only at h1 h2 hm hm2
  have b0 := Box.new (w := w) (k := w.heap.size) (cs := #[s1, s2]) (t := 27) rfl
  have G0 := Lib.hid ((Gr.refl w).alloc (.cells #[s1, s2] 27))
  have l1 : (tx (digsT xs)).size ≤ 1048576 := by rw [tx_size]; have := digsT_len xs; omega
  have l2 : (tx (digsT ys)).size ≤ 1048576 := by rw [tx_size]; have := digsT_len ys; omega
  go_enter Try.func17, Try.ntmps17
  go_wp2_with fail
  refine (digits_any _ _ xs (h1.gr G0.out) hm).mono ?_
  rintro e w1 ⟨rfl, hg⟩
  have c0 := (b0.gr hg).c
  have b1 := b0.gr hg
  have G1 := Lib.hid (G0.out.trans hg)
  clear hg b0
  go_wp2_with fail
  refine (digits_any _ _ ys (h2.gr G1.out) hm2).mono ?_
  rintro e w2 ⟨rfl, hg⟩
  have G2 := Lib.hid (G1.out.trans hg)
  clear hg c0
  cases hx : digsOk xs
  · have HX := Lib.hid hx
    clear hx
    go_wp2_with fail
    go_ret
    exact ⟨by rw [fmtState_no (by simp [HX.out])]; rfl, G2.out⟩
  · have HX := Lib.hid hx
    clear hx
    cases hy : digsOk ys
    · have HY := Lib.hid hy
      clear hy
      go_wp2_with fail
      go_ret
      exact ⟨by rw [fmtState_no (by simp [HY.out])]; rfl, G2.out⟩
    · have HY := Lib.hid hy
      clear hy
      go_wp2_with fail
      go_ret
      exact ⟨by rw [fmtState_yes (x := (xs, ys)) HX.out HY.out, ← tx_add, ← tx_add]; rfl, G2.out⟩

set_option maxRecDepth 100000 in
set_option maxHeartbeats 1000000 in
theorem specFormatLasso_any (w : World) (v : Value) (x : Ints2) (h : PS w v x) (hm : x.1.length ≤ 1048576) (hm2 : x.2.length ≤ 1048576) :
    Calls Try.prog 26 #[v] w fun e w' => e = .returned (.string (tx (fmtLasso x))) ∧ Gr w w' := by
  have HP := Lib.hid h
  obtain ⟨s1, s2, rfl, h1, h2⟩ := h
  have b0 := Box.new (w := w) (k := w.heap.size) (cs := #[s1, s2]) (t := 33) rfl
  have G0 := Lib.hid ((Gr.refl w).alloc (.cells #[s1, s2] 33))
  have hmx : x.1.length ≤ maxLen := by unfold maxLen; omega
  have hmy : x.2.length ≤ maxLen := by unfold maxLen; omega
  have l1 : (tx (digsT x.1)).size ≤ 1048576 := by rw [tx_size]; have := digsT_len x.1; omega
  have l2 : (tx (digsT x.2)).size ≤ 1048576 := by rw [tx_size]; have := digsT_len x.2; omega
  cases hk : lassoOk x
  · have HK := Lib.hid hk
    clear hk
    go_enter Try.func26, Try.ntmps26
    go_wp2_with fail
    refine (specLassoValid_any _ _ x (HP.out.gr G0.out) hmx hmy).mono ?_
    rw [HK.out]
    rintro e w1 ⟨rfl, hg⟩
    go_wp2_with fail
    go_ret
    exact ⟨by rw [fmtLasso_no HK.out]; rfl, G0.out.trans hg⟩
  · have HK := Lib.hid hk
    clear hk
    go_enter Try.func26, Try.ntmps26
    go_wp2_with fail
    refine (specLassoValid_any _ _ x (HP.out.gr G0.out) hmx hmy).mono ?_
    rw [HK.out]
    rintro e w1 ⟨rfl, hg⟩
    have c0 := (b0.gr hg).c
    have b1 := b0.gr hg
    have G1 := Lib.hid (G0.out.trans hg)
    clear hg b0
    go_wp2_with fail
    refine (l3Digits_any _ _ x.1 (h1.gr G1.out) hm).mono ?_
    rintro e w2 ⟨rfl, hg⟩
    have G2 := Lib.hid (G1.out.trans hg)
    have c1 := (b1.gr hg).c
    clear c0 hg b1
    go_wp2_with fail
    refine (l3Digits_any _ _ x.2 (h2.gr G2.out) hm2).mono ?_
    rintro e w3 ⟨rfl, hg⟩
    have G3 := Lib.hid (G2.out.trans hg)
    clear c1 hg
    go_wp2_with fail
    go_ret
    exact ⟨by rw [fmtLasso_yes HK.out, ← tx_add, ← tx_add, ← tx_add]; rfl, G3.out⟩

set_option maxRecDepth 100000 in
set_option maxHeartbeats 1000000 in
theorem implFormatLasso_any (w : World) (v : Value) (x : Ints2) (h : PS w v x) (hm : x.1.length ≤ 1048576) (hm2 : x.2.length ≤ 1048576) :
    Calls Try.prog 28 #[v] w fun e w' => e = .returned (.string (tx (fmtLasso x))) ∧ Gr w w' := by
  have HP := Lib.hid h
  obtain ⟨s1, s2, rfl, h1, h2⟩ := h
  have b0 := Box.new (w := w) (k := w.heap.size) (cs := #[s1, s2]) (t := 33) rfl
  have G0 := Lib.hid ((Gr.refl w).alloc (.cells #[s1, s2] 33))
  have hmx : x.1.length ≤ maxLen := by unfold maxLen; omega
  have hmy : x.2.length ≤ maxLen := by unfold maxLen; omega
  have l1 : (tx (digsT x.1)).size ≤ 1048576 := by rw [tx_size]; have := digsT_len x.1; omega
  have l2 : (tx (digsT x.2)).size ≤ 1048576 := by rw [tx_size]; have := digsT_len x.2; omega
  cases hk : lassoOk x
  · have HK := Lib.hid hk
    clear hk
    go_enter Try.func28, Try.ntmps28
    go_wp2_with fail
    refine (implLassoValid_any _ _ x (HP.out.gr G0.out) hmx hmy).mono ?_
    rw [HK.out]
    rintro e w1 ⟨rfl, hg⟩
    go_wp2_with fail
    go_ret
    exact ⟨by rw [fmtLasso_no HK.out]; rfl, G0.out.trans hg⟩
  · have HK := Lib.hid hk
    clear hk
    go_enter Try.func28, Try.ntmps28
    go_wp2_with fail
    refine (implLassoValid_any _ _ x (HP.out.gr G0.out) hmx hmy).mono ?_
    rw [HK.out]
    rintro e w1 ⟨rfl, hg⟩
    have c0 := (b0.gr hg).c
    have b1 := b0.gr hg
    have G1 := Lib.hid (G0.out.trans hg)
    clear hg b0
    go_wp2_with fail
    refine (digits_any _ _ x.1 (h1.gr G1.out) hm).mono ?_
    rintro e w2 ⟨rfl, hg⟩
    have G2 := Lib.hid (G1.out.trans hg)
    have c1 := (b1.gr hg).c
    clear c0 hg b1
    go_wp2_with fail
    refine (digits_any _ _ x.2 (h2.gr G2.out) hm2).mono ?_
    rintro e w3 ⟨rfl, hg⟩
    have G3 := Lib.hid (G2.out.trans hg)
    clear c1 hg
    go_wp2_with fail
    go_ret
    exact ⟨by rw [fmtLasso_yes HK.out, ← tx_add, ← tx_add, ← tx_add]; rfl, G3.out⟩

end Go.Proofs.Ytlbbhkpjjciaiaa

