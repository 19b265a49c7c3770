/-
  Lassos drawn: what SameWord is asked of. No conditions.
-/
import Derived.Test.YtlbbhkpjjciaiaaD10
namespace Go.Proofs.Ytlbbhkpjjciaiaa.Vm
open Go
set_option linter.unusedVariables false
set_option linter.unusedSimpArgs false
set_option maxRecDepth 200000

noncomputable def hK3 (xs : List UInt8) : Int := pkI (cut2000 xs) (eP xs) 3
noncomputable def u1S (xs : List UInt8) : List Int := roS (cut2000 xs) (eP xs + 1) (eA xs) (eB xs)
noncomputable def u1L (xs : List UInt8) : List Int := roL (cut2000 xs) (eP xs + 1) (eB xs)
noncomputable def u2S (xs : List UInt8) : List Int := roS (cut2000 xs) (eP xs + 1 + 1 + 1) (eA xs) (eB xs)
noncomputable def u2L (xs : List UInt8) : List Int := roL (cut2000 xs) (eP xs + 1 + 1 + 1) (eB xs)
noncomputable def u3S (xs : List UInt8) : List Int := muS (cut2000 xs) (eP xs + 1 + 1 + 1 + 1 + 1) (u2S xs)
noncomputable def u3L (xs : List UInt8) : List Int := muL (cut2000 xs) (eP xs + 1 + 1 + 1 + 1 + 1) (u2L xs)
noncomputable def w0S (xs : List UInt8) : List Int := dS (cut2000 xs) (eP xs + 1)
noncomputable def w0L (xs : List UInt8) : List Int := dL (cut2000 xs) (eP xs + 1)
noncomputable def w0P (xs : List UInt8) : Int := dq2 (cut2000 xs) (eP xs + 1) + 1
noncomputable def w1S (xs : List UInt8) : List Int := muS (cut2000 xs) (w0P xs) (w0S xs)
noncomputable def w1L (xs : List UInt8) : List Int := muL (cut2000 xs) (w0P xs) (w0L xs)
noncomputable def fA (xs : List UInt8) : List Int := if 0 < hK3 xs then u1S xs else eA xs
noncomputable def fB (xs : List UInt8) : List Int := if 0 < hK3 xs then u1L xs else eB xs
noncomputable def fC (xs : List UInt8) : List Int := if 0 < hK3 xs then u3S xs else w1S xs
noncomputable def fD (xs : List UInt8) : List Int := if 0 < hK3 xs then u3L xs else w1L xs
theorem e_range2 (xs : List UInt8) : 0 ≤ eP xs ∧ eP xs ≤ 1000 ∧ (eA xs).length ≤ 5 ∧ 1 ≤ (eB xs).length ∧ (eB xs).length ≤ 8 := by
  obtain ⟨r1, r2, r3, r4, r5, r6, r7⟩ := d_range (cut2000 xs) (p := 0) (by omega)
  obtain ⟨l1, l2⟩ := dL_range (cut2000 xs) (p := 0) (by omega)
  exact ⟨by unfold eP; omega, by unfold eP; omega, r5, l1, l2⟩
theorem f_range (xs : List UInt8) : (u1S xs).length ≤ 100 ∧ (u1L xs).length ≤ 100 ∧ (u2S xs).length ≤ 100 ∧ 1 ≤ (u2L xs).length ∧ (u2L xs).length ≤ 100 ∧ (u3S xs).length ≤ 1000 ∧ (u3L xs).length ≤ 1000 ∧ (w0S xs).length ≤ 100 ∧ 1 ≤ (w0L xs).length ∧ (w0L xs).length ≤ 100 ∧ 0 ≤ w0P xs ∧ w0P xs ≤ 2000 ∧ (w1S xs).length ≤ 1000 ∧ (w1L xs).length ≤ 1000 := by
  obtain ⟨p0, p1, a1, b0, b1⟩ := e_range2 xs
  obtain ⟨o1, o2, o3⟩ := ro_range (cut2000 xs) (p := eP xs + 1) (by omega) (by omega) (eA xs) b0
  obtain ⟨v1, v2, v3⟩ := ro_range (cut2000 xs) (p := eP xs + 1 + 1 + 1) (by omega) (by omega) (eA xs) b0
  obtain ⟨m1, m2, m3, m4⟩ := mu_range (cut2000 xs) (eP xs + 1 + 1 + 1 + 1 + 1) (u2S xs) (u2L xs)
  obtain ⟨r1, r2, r3, r4, r5, r6, r7⟩ := d_range (cut2000 xs) (p := eP xs + 1) (by omega)
  obtain ⟨l1, l2⟩ := dL_range (cut2000 xs) (p := eP xs + 1) (by omega)
  obtain ⟨n1, n2, n3, n4⟩ := mu_range (cut2000 xs) (w0P xs) (w0S xs) (w0L xs)
  have e1 : (u2S xs).length ≤ 9 := by unfold u2S; omega
  have e2 : (u2L xs).length ≤ 16 := by unfold u2L; omega
  have e3 : (w0S xs).length ≤ 5 := r5
  have e4 : (w0L xs).length ≤ 8 := l2
  exact ⟨by unfold u1S; omega, by unfold u1L; omega, by omega, v2, by omega, by unfold u3S; omega, by unfold u3L; omega, by omega, l1, by omega, by unfold w0P; omega, by unfold w0P; omega, by unfold w1S; omega, by unfold w1L; omega⟩
theorem f_len (xs : List UInt8) : (fA xs).length ≤ 1000 ∧ (fB xs).length ≤ 1000 ∧ (fC xs).length ≤ 1000 ∧ (fD xs).length ≤ 1000 := by
  obtain ⟨p0, p1, a1, b0, b1⟩ := e_range2 xs
  obtain ⟨r1, r2, r3, r4, r5, r6, r7, r8, r9, r10, r11, r12, r13, r14⟩ := f_range xs
  refine ⟨?_, ?_, ?_, ?_⟩
  · unfold fA; split <;> omega
  · unfold fB; split <;> omega
  · unfold fC; split <;> omega
  · unfold fD; split <;> omega

set_option maxHeartbeats 2000000 in
theorem drawSameWord_pure (xs : List UInt8)  : Pure Try.prog 41 [li cY xs] (.tup [.st [fr 1 cI (fA xs), fr 1 cI (fB xs)], .st [fr 1 cI (fC xs), fr 1 cI (fD xs)]]) := by
  refine Pure.of_walk Try.func41 rfl (by simp [Try.f41]) (by simp [-List.drop_one, go_sem]) fun B hK => ?_
  obtain ⟨e1, e2, e3, e4, e5⟩ := e_range2 xs; obtain ⟨r1, r2, r3, r4, r5, r6, r7, r8, r9, r10, r11, r12, r13, r14⟩ := f_range xs; have hl := cut_len xs; by_cases kk : 0 < hK3 xs
  all_goals (repeat' (first
    | refine AW_seq ?_
    | refine AW_region (id := 0) Γs48_ok [] (by kernel_rfl) ?_; simp  [-List.getD_eq_getElem?_getD, -List.drop_one, ↓splitB_true, ↓splitB_false, go_sem]
    | refine AW_region (id := 1) Γs48_ok [] (by kernel_rfl) ?_; simp  [-List.getD_eq_getElem?_getD, -List.drop_one, ↓splitB_true, ↓splitB_false, go_sem]; try (refine AW_matBox 4 rfl fun b hb => ?_; clear hb)
    | refine AW_region (id := 2) Γs48_ok [] (by kernel_rfl) ?_; simp  [-List.getD_eq_getElem?_getD, -List.drop_one, ↓splitB_true, ↓splitB_false, go_sem, hl, (show dS (cut2000 xs) 0 = eA xs from rfl), (show dL (cut2000 xs) 0 = eB xs from rfl), (show dq2 (cut2000 xs) 0 + 1 = eP xs from rfl)]; try ((refine AW_box2c 5 rfl fun lb x y j1 j2 cp1 cp2 hlb hx hy n1 n2 n3 hc1 hd1 hc2 hd2 => ?_); (have m1 : ¬ lb = b := (by dsimp only at hlb; exact fresh1 hlb)); (have m2 : ¬ x = b := (by dsimp only at hx; exact fresh1 hx)); (have m3 : ¬ y = b := (by dsimp only at hy; exact fresh1 hy)); (clear hlb hx hy))
    | refine AW_region (id := 3) Γs48_ok [] (by kernel_rfl) ?_; simp  [-List.getD_eq_getElem?_getD, -List.drop_one, ↓splitB_true, ↓splitB_false, go_sem, n1, n2, n3, m1, m2, m3, Ne.symm n1, Ne.symm n2, Ne.symm n3, Ne.symm m1, Ne.symm m2, Ne.symm m3, hl, e1, (show eP xs ≤ 1000000 by omega), (show pkI (cut2000 xs) (eP xs) 3 = hK3 xs from rfl), kk]
    | refine AW_region_snap (id := 4) Γs48_ok mixed [(lb, [.sl x 1 0 (eA xs).length cp1, .sl y 1 0 (eB xs).length cp2])] [] [4, 5] (by kernel_rfl) (by kernel_rfl) (by simp [-List.getD_eq_getElem?_getD, -List.drop_one, ↓splitB_true, ↓splitB_false, go_sem, n1, n2, n3, m1, m2, m3, Ne.symm n1, Ne.symm n2, Ne.symm n3, Ne.symm m1, Ne.symm m2, Ne.symm m3, hl, e4, (show (eA xs).length ≤ 1000 by omega), (show (eB xs).length ≤ 1000 by omega), (show 0 ≤ eP xs + 1 by omega), (show eP xs + 1 ≤ 800000 by omega), (show 0 ≤ eP xs + 1 + 1 + 1 by omega), (show eP xs + 1 + 1 + 1 ≤ 800000 by omega), (show 0 ≤ eP xs + 1 + 1 + 1 + 1 + 1 by omega), (show eP xs + 1 + 1 + 1 + 1 + 1 ≤ 800000 by omega), (show roS (cut2000 xs) (eP xs + 1) (eA xs) (eB xs) = u1S xs from rfl), (show roL (cut2000 xs) (eP xs + 1) (eB xs) = u1L xs from rfl), (show roS (cut2000 xs) (eP xs + 1 + 1 + 1) (eA xs) (eB xs) = u2S xs from rfl), (show roL (cut2000 xs) (eP xs + 1 + 1 + 1) (eB xs) = u2L xs from rfl), (show muS (cut2000 xs) (eP xs + 1 + 1 + 1 + 1 + 1) (u2S xs) = u3S xs from rfl), (show muL (cut2000 xs) (eP xs + 1 + 1 + 1 + 1 + 1) (u2L xs) = u3L xs from rfl), r4, (show (u2S xs).length ≤ 1000 by omega), (show (u2L xs).length ≤ 1000 by omega)]) (by simp [-List.getD_eq_getElem?_getD, -List.drop_one, ↓splitB_true, ↓splitB_false, go_sem, n1, n2, n3, m1, m2, m3, Ne.symm n1, Ne.symm n2, Ne.symm n3, Ne.symm m1, Ne.symm m2, Ne.symm m3, hl, e4, (show (eA xs).length ≤ 1000 by omega), (show (eB xs).length ≤ 1000 by omega), (show 0 ≤ eP xs + 1 by omega), (show eP xs + 1 ≤ 800000 by omega), (show 0 ≤ eP xs + 1 + 1 + 1 by omega), (show eP xs + 1 + 1 + 1 ≤ 800000 by omega), (show 0 ≤ eP xs + 1 + 1 + 1 + 1 + 1 by omega), (show eP xs + 1 + 1 + 1 + 1 + 1 ≤ 800000 by omega), (show roS (cut2000 xs) (eP xs + 1) (eA xs) (eB xs) = u1S xs from rfl), (show roL (cut2000 xs) (eP xs + 1) (eB xs) = u1L xs from rfl), (show roS (cut2000 xs) (eP xs + 1 + 1 + 1) (eA xs) (eB xs) = u2S xs from rfl), (show roL (cut2000 xs) (eP xs + 1 + 1 + 1) (eB xs) = u2L xs from rfl), (show muS (cut2000 xs) (eP xs + 1 + 1 + 1 + 1 + 1) (u2S xs) = u3S xs from rfl), (show muL (cut2000 xs) (eP xs + 1 + 1 + 1 + 1 + 1) (u2L xs) = u3L xs from rfl), r4, (show (u2S xs).length ≤ 1000 by omega), (show (u2L xs).length ≤ 1000 by omega)]) ?_; simp  [-List.getD_eq_getElem?_getD, -List.drop_one, ↓splitB_true, ↓splitB_false, go_sem, n1, n2, n3, m1, m2, m3, Ne.symm n1, Ne.symm n2, Ne.symm n3, Ne.symm m1, Ne.symm m2, Ne.symm m3, hl, e4, (show (eA xs).length ≤ 1000 by omega), (show (eB xs).length ≤ 1000 by omega), (show 0 ≤ eP xs + 1 by omega), (show eP xs + 1 ≤ 800000 by omega), (show 0 ≤ eP xs + 1 + 1 + 1 by omega), (show eP xs + 1 + 1 + 1 ≤ 800000 by omega), (show 0 ≤ eP xs + 1 + 1 + 1 + 1 + 1 by omega), (show eP xs + 1 + 1 + 1 + 1 + 1 ≤ 800000 by omega), (show roS (cut2000 xs) (eP xs + 1) (eA xs) (eB xs) = u1S xs from rfl), (show roL (cut2000 xs) (eP xs + 1) (eB xs) = u1L xs from rfl), (show roS (cut2000 xs) (eP xs + 1 + 1 + 1) (eA xs) (eB xs) = u2S xs from rfl), (show roL (cut2000 xs) (eP xs + 1 + 1 + 1) (eB xs) = u2L xs from rfl), (show muS (cut2000 xs) (eP xs + 1 + 1 + 1 + 1 + 1) (u2S xs) = u3S xs from rfl), (show muL (cut2000 xs) (eP xs + 1 + 1 + 1 + 1 + 1) (u2L xs) = u3L xs from rfl), r4, (show (u2S xs).length ≤ 1000 by omega), (show (u2L xs).length ≤ 1000 by omega)]
    | refine AW_region_snap (id := 5) Γs48_ok mixed [(lb, [.sl x 1 0 (eA xs).length cp1, .sl y 1 0 (eB xs).length cp2])] [] [4] (by kernel_rfl) (by kernel_rfl) (by simp [-List.getD_eq_getElem?_getD, -List.drop_one, ↓splitB_true, ↓splitB_false, go_sem, n1, n2, n3, m1, m2, m3, Ne.symm n1, Ne.symm n2, Ne.symm n3, Ne.symm m1, Ne.symm m2, Ne.symm m3, hl, (show 0 ≤ eP xs + 1 by omega), (show eP xs + 1 ≤ 900000 by omega), (show dS (cut2000 xs) (eP xs + 1) = w0S xs from rfl), (show dL (cut2000 xs) (eP xs + 1) = w0L xs from rfl), (show dq2 (cut2000 xs) (eP xs + 1) + 1 = w0P xs from rfl), r9, r11, (show w0P xs ≤ 800000 by omega), (show (w0S xs).length ≤ 1000 by omega), (show (w0L xs).length ≤ 1000 by omega), (show muS (cut2000 xs) (w0P xs) (w0S xs) = w1S xs from rfl), (show muL (cut2000 xs) (w0P xs) (w0L xs) = w1L xs from rfl)]) (by simp [-List.getD_eq_getElem?_getD, -List.drop_one, ↓splitB_true, ↓splitB_false, go_sem, n1, n2, n3, m1, m2, m3, Ne.symm n1, Ne.symm n2, Ne.symm n3, Ne.symm m1, Ne.symm m2, Ne.symm m3, hl, (show 0 ≤ eP xs + 1 by omega), (show eP xs + 1 ≤ 900000 by omega), (show dS (cut2000 xs) (eP xs + 1) = w0S xs from rfl), (show dL (cut2000 xs) (eP xs + 1) = w0L xs from rfl), (show dq2 (cut2000 xs) (eP xs + 1) + 1 = w0P xs from rfl), r9, r11, (show w0P xs ≤ 800000 by omega), (show (w0S xs).length ≤ 1000 by omega), (show (w0L xs).length ≤ 1000 by omega), (show muS (cut2000 xs) (w0P xs) (w0S xs) = w1S xs from rfl), (show muL (cut2000 xs) (w0P xs) (w0L xs) = w1L xs from rfl)]) ?_; simp  [-List.getD_eq_getElem?_getD, -List.drop_one, ↓splitB_true, ↓splitB_false, go_sem, n1, n2, n3, m1, m2, m3, Ne.symm n1, Ne.symm n2, Ne.symm n3, Ne.symm m1, Ne.symm m2, Ne.symm m3, hl, (show 0 ≤ eP xs + 1 by omega), (show eP xs + 1 ≤ 900000 by omega), (show dS (cut2000 xs) (eP xs + 1) = w0S xs from rfl), (show dL (cut2000 xs) (eP xs + 1) = w0L xs from rfl), (show dq2 (cut2000 xs) (eP xs + 1) + 1 = w0P xs from rfl), r9, r11, (show w0P xs ≤ 800000 by omega), (show (w0S xs).length ≤ 1000 by omega), (show (w0L xs).length ≤ 1000 by omega), (show muS (cut2000 xs) (w0P xs) (w0S xs) = w1S xs from rfl), (show muL (cut2000 xs) (w0P xs) (w0L xs) = w1L xs from rfl)]; try ((refine AW_own2 2 (X := cat cI (eA xs) ++ List.replicate j1 D.any) (Y := cat cI (eB xs) ++ List.replicate j2 D.any) rfl (by simp [upd, n1, n2, n3, m1, m2, m3, Ne.symm n1, Ne.symm n2, Ne.symm n3]) (by simp [upd, n1, n2, n3, m1, m2, m3, Ne.symm n1, Ne.symm n2, Ne.symm n3]) n3 (by simp [cat_length]) (by simp [cat_length]; omega) (by simp [cat_length]) (by simp [cat_length]; omega) fun r hr => ?_))
    | refine AW_condA (c := .tmp 12) ?_; simp [-List.getD_eq_getElem?_getD, -List.drop_one, ↓splitB_true, ↓splitB_false, go_sem]; try first | (refine ⟨?_, ?_⟩ <;> change AW _ _ _ _ _ _) | (refine ⟨fun c12 => ?_, fun c12 => ?_⟩ <;> (try simp [B_iff, B_not] at c12))
    | (refine AW_block ?_)
    | (refine AW_exit ?_; simp [-List.getD_eq_getElem?_getD, -List.drop_one, ↓splitB_true, ↓splitB_false, go_sem])
    | (refine AW_skip ?_; simp [-List.getD_eq_getElem?_getD, -List.drop_one, ↓splitB_true, ↓splitB_false, go_sem])
    | (refine AW_ret ?_; simp [-List.getD_eq_getElem?_getD, -List.drop_one, ↓splitB_true, ↓splitB_false, go_sem, Try.results41])
    | (intro hx; change AW _ _ _ _ _ _)
    | (refine ⟨?_, ?_⟩ <;> change AW _ _ _ _ _ _)
    | (intro hx; refine ⟨fun hs => ?_, fun hs => ?_⟩)
    | (refine ⟨fun hs => ?_, fun hs => ?_⟩)
    | (refine ⟨?_, fun hs => ?_⟩; change AW _ _ _ _ _ _)
    | (refine ⟨fun hs => ?_, ?_⟩; rotate_left; change AW _ _ _ _ _ _; rotate_left)))
  all_goals (first
    | (simp [fA, fB, fC, fD, kk]; done)
    | skip)
noncomputable def drawSameWord_pureC : Con := .pure fun
  | [.list n_xs c_xs] => ((Is cY n_xs c_xs), .tup [.st [fr 1 cI (fA (de cY c_xs)), fr 1 cI (fB (de cY c_xs))], .st [fr 1 cI (fC (de cY c_xs)), fr 1 cI (fD (de cY c_xs))]])
  | _ => (False, .any)
attribute [go_sem] drawSameWord_pureC
theorem drawSameWord_pureC_ok : ConOk Try.prog 41 drawSameWord_pureC := by
  refine ⟨callable Try.func41 (by decide) rfl, fun args h => ?_⟩
  revert h
  dsimp only
  split
  · intro h
    obtain ⟨xs, rfl, rfl⟩ := h
    try simp only [de_cat] at *
    exact ⟨drawSameWord_pure xs, by simp [go_sem]⟩
  · intro h
    exact h.elim
noncomputable def Γs49 : FuncId → Con := ext Γs48 41 drawSameWord_pureC
attribute [go_sem] Γs49
theorem Γs49_ok : ∀ g, ConOk Try.prog g (Γs49 g) := ext_ok Γs48_ok drawSameWord_pureC_ok
end Go.Proofs.Ytlbbhkpjjciaiaa.Vm

