/-
  Lassos drawn: the arguments. No conditions.
-/
import Derived.Test.YtlbbhkpjjciaiaaD4
namespace Go.Proofs.Ytlbbhkpjjciaiaa.Vm
open Go
set_option linter.unusedVariables false
set_option linter.unusedSimpArgs false
set_option maxRecDepth 200000

section
variable {P : Program} {B : Base} {n : Nat} {c : Code} {Q : Exit → St → Prop} {S : St}
/-- A box of two named slices owns them again. -/
theorem AW_own2 (t : Nat) {x y m1 m2 cp cq : Nat} {X Y : List D} (hT : S.T t = .box [.sl x 1 0 m1 cp, .sl y 1 0 m2 cq]) (hx : S.H x = some X) (hy : S.H y = some Y) (hxy : ¬ x = y) (h1 : m1 ≤ X.length) (h2 : cp ≤ X.length) (h3 : m2 ≤ Y.length) (h4 : cq ≤ Y.length)
    (h : ∀ r, S.H r = none → AW P B n c Q ⟨upd S.T t (.ptr r 0), upd (upd (upd S.H x none) y none) r (some [.fr 1 m1 (X.take m1), .fr 1 m2 (Y.take m2)])⟩) : AW P B n c Q S := by
  refine AW_matBox t hT fun r hr => ?_
  have rx : ¬ r = x := by rintro rfl; rw [hx] at hr; cases hr
  have ry : ¬ r = y := by rintro rfl; rw [hy] at hr; cases hr
  refine AW_unmatCell r 0 (b' := x) (sz := 1) (m := m1) (cp := cp) (all := [.sl x 1 0 m1 cp, .sl y 1 0 m2 cq]) (cs := X) (upd_eq ..) rfl rx (by dsimp only; rw [upd_ne (Ne.symm rx), hx]) (by omega) (by omega) (by omega) ?_
  refine AW_unmatCell r 1 (b' := y) (sz := 1) (m := m2) (cp := cq) (all := [.fr 1 m1 (X.take (m1 * 1)), .sl y 1 0 m2 cq]) (cs := Y) (upd_eq ..) rfl ry (by dsimp only; rw [upd_ne (Ne.symm ry), upd_ne (Ne.symm hxy), upd_ne (Ne.symm ry), hy]) (by omega) (by omega) (by omega) ?_
  have := h r hr
  have e : upd (upd (upd (upd (upd S.H r (some [.sl x 1 0 m1 cp, .sl y 1 0 m2 cq])) x none) r (some ([D.sl x 1 0 m1 cp, .sl y 1 0 m2 cq].set 0 (.fr 1 m1 (X.take (m1 * 1)))))) y none) r (some ([D.fr 1 m1 (X.take (m1 * 1)), .sl y 1 0 m2 cq].set 1 (.fr 1 m2 (Y.take (m2 * 1))))) = upd (upd (upd S.H x none) y none) r (some [.fr 1 m1 (X.take m1), .fr 1 m2 (Y.take m2)]) := by
    funext z
    by_cases e0 : z = r
    · subst e0; rw [upd_eq, upd_eq, Nat.mul_one, Nat.mul_one]; rfl
    · by_cases e1 : z = y
      · subst e1; rw [upd_ne e0, upd_eq, upd_ne e0, upd_eq]
      · by_cases e2 : z = x
        · subst e2; rw [upd_ne e0, upd_ne e1, upd_ne e0, upd_eq, upd_ne e0, upd_ne e1, upd_eq]
        · rw [upd_ne e0, upd_ne e1, upd_ne e0, upd_ne e2, upd_ne e0, upd_ne e0, upd_ne e1, upd_ne e2]
  dsimp only at this ⊢
  rw [e]
  exact this
end
theorem cut_len (xs : List UInt8) : (cut2000 xs).length ≤ 2000 := by simp [cut2000]; omega
theorem dL_range (ys : List UInt8) {p : Int} (hp : p ≤ 900000) : 1 ≤ (dL ys p).length ∧ (dL ys p).length ≤ 8 := by
  obtain ⟨_, _, _, _, _, r6, r7⟩ := d_range ys hp
  unfold dL
  split
  · simp; omega
  · omega
theorem stre_range (ys : List UInt8) : ∀ (f : Nat) (p : Int) (n : Nat), p ≤ (stre ys f p n).2 ∧ (stre ys f p n).2 ≤ p + f + 1 ∧ n ≤ (stre ys f p n).1 ∧ (stre ys f p n).1 ≤ n + f
  | 0, p, n => by simp only [stre]; omega
  | f + 1, p, n => by
    have := stre_range ys f (p + 1) (n + 1)
    simp only [stre]
    split
    · omega
    · dsimp only; omega
theorem mu_range (ys : List UInt8) (p : Int) (a c : List Int) : p ≤ muP ys p a ∧ muP ys p a ≤ p + 100 ∧ (muS ys p a).length ≤ a.length + 100 ∧ (muL ys p c).length ≤ c.length := by
  obtain ⟨s1, s2, s3, s4⟩ := stre_range ys (82 - a.length) (p + 1) a.length
  refine ⟨?_, ?_, ?_, ?_⟩
  · unfold muP; split; omega; split <;> omega
  · unfold muP; split; omega; split <;> omega
  · unfold muS; split; simp; split; simp; omega; omega
  · unfold muL; split; simp; split; simp; omega

@[go_sem] theorem at9_is : Is cI 9 [.int .i64 0, .int .i64 1, .int .i64 3, .int .i64 5, .int .i64 9, .int .i64 30, .int .i64 (-1), .int .i64 9223372036854775807, .int .i64 (-9223372036854775808)] = True := eq_true ⟨([0, 1, 3, 5, 9, 30, -1, 9223372036854775807, -9223372036854775808] : List Int), rfl, rfl⟩
@[go_sem] theorem at9_de : de cI [.int .i64 0, .int .i64 1, .int .i64 3, .int .i64 5, .int .i64 9, .int .i64 30, .int .i64 (-1), .int .i64 9223372036854775807, .int .i64 (-9223372036854775808)] = ([0, 1, 3, 5, 9, 30, -1, 9223372036854775807, -9223372036854775808] : List Int) := de_cat (f := cI) [0, 1, 3, 5, 9, 30, -1, 9223372036854775807, -9223372036854775808]
/-! What LetterAt is asked of. -/
noncomputable def xS (xs : List UInt8) : List Int := muS (cut2000 xs) (dq2 (cut2000 xs) 0 + 1) (dS (cut2000 xs) 0)
noncomputable def xL (xs : List UInt8) : List Int := muL (cut2000 xs) (dq2 (cut2000 xs) 0 + 1) (dL (cut2000 xs) 0)
noncomputable def xP (xs : List UInt8) : Int := muP (cut2000 xs) (dq2 (cut2000 xs) 0 + 1) (dS (cut2000 xs) 0)
noncomputable def xI (xs : List UInt8) : Int := numI (cut2000 xs) (xP xs) [0, 1, 3, 5, 9, 30, -1, 9223372036854775807, -9223372036854775808]
theorem x_range (xs : List UInt8) : 0 ≤ xP xs ∧ xP xs ≤ 1000 ∧ (xS xs).length ≤ 1000 ∧ (xL xs).length ≤ 1000 ∧ -9223372036854775808 ≤ xI xs ∧ xI xs ≤ 9223372036854775807 := by
  obtain ⟨r1, r2, r3, r4, r5, r6, r7⟩ := d_range (cut2000 xs) (p := 0) (by omega)
  obtain ⟨l1, l2⟩ := dL_range (cut2000 xs) (p := 0) (by omega)
  obtain ⟨m1, m2, m3, m4⟩ := mu_range (cut2000 xs) (dq2 (cut2000 xs) 0 + 1) (dS (cut2000 xs) 0) (dL (cut2000 xs) 0)
  have hp : xP xs ≤ 1000 := by unfold xP; omega
  have hi := numI_range (cut2000 xs) (p := xP xs) (by omega) (xs := [0, 1, 3, 5, 9, 30, -1, 9223372036854775807, -9223372036854775808]) (lo := -9223372036854775808) (hi := 9223372036854775807) (by decide) (by decide)
  refine ⟨by unfold xP; omega, hp, by unfold xS; omega, by unfold xL; omega, hi.1, hi.2⟩

set_option maxHeartbeats 1000000 in
theorem drawLetterAt_pure (xs : List UInt8)  : Pure Try.prog 20 [li cY xs] (.tup [.st [fr 1 cI (xS xs), fr 1 cI (xL xs)], .int .i64 (xI xs)]) := by
  refine Pure.of_walk Try.func20 rfl (by simp [Try.f20]) (by simp [-List.drop_one, go_sem]) fun B hK => ?_
  obtain ⟨r1, r2, r3, r4, r5, r6, r7⟩ := d_range (cut2000 xs) (p := 0) (by omega); obtain ⟨l1, l2⟩ := dL_range (cut2000 xs) (p := 0) (by omega); obtain ⟨x1, x2, x3, x4, x5, x6⟩ := x_range xs; have hl := cut_len xs
  all_goals (repeat' (first
    | refine AW_seq ?_
    | refine AW_region (id := 0) Γs41_ok [] (by kernel_rfl) ?_; simp  [-List.getD_eq_getElem?_getD, -List.drop_one, ↓splitB_true, ↓splitB_false, go_sem]
    | refine AW_region (id := 1) Γs41_ok [] (by kernel_rfl) ?_; simp  [-List.getD_eq_getElem?_getD, -List.drop_one, ↓splitB_true, ↓splitB_false, go_sem]; try (refine AW_matBox 4 rfl fun b hb => ?_)
    | refine AW_region (id := 2) Γs41_ok [] (by kernel_rfl) ?_; simp  [-List.getD_eq_getElem?_getD, -List.drop_one, ↓splitB_true, ↓splitB_false, go_sem, hl, (show muS (cut2000 xs) (dq2 (cut2000 xs) 0 + 1) (dS (cut2000 xs) 0) = xS xs from rfl), (show muL (cut2000 xs) (dq2 (cut2000 xs) 0 + 1) (dL (cut2000 xs) 0) = xL xs from rfl), (show muP (cut2000 xs) (dq2 (cut2000 xs) 0 + 1) (dS (cut2000 xs) 0) = xP xs from rfl), (show numI (cut2000 xs) (xP xs) [0, 1, 3, 5, 9, 30, -1, 9223372036854775807, -9223372036854775808] = xI xs from rfl), (show 0 ≤ dq2 (cut2000 xs) 0 + 1 by omega), (show dq2 (cut2000 xs) 0 + 1 ≤ 800000 by omega), (show (dS (cut2000 xs) 0).length ≤ 1000 by omega), l1, (show (dL (cut2000 xs) 0).length ≤ 1000 by omega), x1, (show xP xs ≤ 1000000 by omega)]
    | (refine AW_block ?_)
    | (refine AW_exit ?_; simp [-List.getD_eq_getElem?_getD, -List.drop_one, ↓splitB_true, ↓splitB_false, go_sem])
    | (refine AW_skip ?_; simp [-List.getD_eq_getElem?_getD, -List.drop_one, ↓splitB_true, ↓splitB_false, go_sem])
    | (refine AW_ret ?_; simp [-List.getD_eq_getElem?_getD, -List.drop_one, ↓splitB_true, ↓splitB_false, go_sem, Try.results20])
    | (intro hx; change AW _ _ _ _ _ _)
    | (refine ⟨?_, ?_⟩ <;> change AW _ _ _ _ _ _)
    | (intro hx; refine ⟨fun hs => ?_, fun hs => ?_⟩)
    | (refine ⟨fun hs => ?_, fun hs => ?_⟩)
    | (refine ⟨?_, fun hs => ?_⟩; change AW _ _ _ _ _ _)
    | (refine ⟨fun hs => ?_, ?_⟩; rotate_left; change AW _ _ _ _ _ _; rotate_left)))
noncomputable def drawLetterAt_pureC : Con := .pure fun
  | [.list n_xs c_xs] => ((Is cY n_xs c_xs), .tup [.st [fr 1 cI (xS (de cY c_xs)), fr 1 cI (xL (de cY c_xs))], .int .i64 (xI (de cY c_xs))])
  | _ => (False, .any)
attribute [go_sem] drawLetterAt_pureC
theorem drawLetterAt_pureC_ok : ConOk Try.prog 20 drawLetterAt_pureC := by
  refine ⟨callable Try.func20 (by decide) rfl, fun args h => ?_⟩
  revert h
  dsimp only
  split
  · intro h
    obtain ⟨xs, rfl, rfl⟩ := h
    try simp only [de_cat] at *
    exact ⟨drawLetterAt_pure xs, by simp [go_sem]⟩
  · intro h
    exact h.elim
noncomputable def Γs42 : FuncId → Con := ext Γs41 20 drawLetterAt_pureC
attribute [go_sem] Γs42
theorem Γs42_ok : ∀ g, ConOk Try.prog g (Γs42 g) := ext_ok Γs41_ok drawLetterAt_pureC_ok

theorem drawSuffixAt_pure (xs : List UInt8)  : Pure Try.prog 34 [li cY xs] (.tup [.st [fr 1 cI (xS xs), fr 1 cI (xL xs)], .int .i64 (xI xs)]) := by
  refine Pure.of_walk Try.func34 rfl (by simp [Try.f34]) (by simp [-List.drop_one, go_sem]) fun B hK => ?_
  (repeat' (first
    | refine AW_seq ?_
    | refine AW_region (id := 0) Γs42_ok [] (by kernel_rfl) ?_; simp  [-List.getD_eq_getElem?_getD, -List.drop_one, ↓splitB_true, ↓splitB_false, go_sem]
    | refine AW_region (id := 1) Γs42_ok [] (by kernel_rfl) ?_; simp  [-List.getD_eq_getElem?_getD, -List.drop_one, ↓splitB_true, ↓splitB_false, go_sem]
    | (refine AW_block ?_)
    | (refine AW_exit ?_; simp [-List.getD_eq_getElem?_getD, -List.drop_one, ↓splitB_true, ↓splitB_false, go_sem])
    | (refine AW_skip ?_; simp [-List.getD_eq_getElem?_getD, -List.drop_one, ↓splitB_true, ↓splitB_false, go_sem])
    | (refine AW_ret ?_; simp [-List.getD_eq_getElem?_getD, -List.drop_one, ↓splitB_true, ↓splitB_false, go_sem, Try.results34])
    | (intro hx; change AW _ _ _ _ _ _)
    | (refine ⟨?_, ?_⟩ <;> change AW _ _ _ _ _ _)
    | (intro hx; refine ⟨fun hs => ?_, fun hs => ?_⟩)
    | (refine ⟨fun hs => ?_, fun hs => ?_⟩)
    | (refine ⟨?_, fun hs => ?_⟩; change AW _ _ _ _ _ _)
    | (refine ⟨fun hs => ?_, ?_⟩; rotate_left; change AW _ _ _ _ _ _; rotate_left)))
noncomputable def drawSuffixAt_pureC : Con := .pure fun
  | [.list n_xs c_xs] => ((Is cY n_xs c_xs), .tup [.st [fr 1 cI (xS (de cY c_xs)), fr 1 cI (xL (de cY c_xs))], .int .i64 (xI (de cY c_xs))])
  | _ => (False, .any)
attribute [go_sem] drawSuffixAt_pureC
theorem drawSuffixAt_pureC_ok : ConOk Try.prog 34 drawSuffixAt_pureC := by
  refine ⟨callable Try.func34 (by decide) rfl, fun args h => ?_⟩
  revert h
  dsimp only
  split
  · intro h
    obtain ⟨xs, rfl, rfl⟩ := h
    try simp only [de_cat] at *
    exact ⟨drawSuffixAt_pure xs, by simp [go_sem]⟩
  · intro h
    exact h.elim
noncomputable def Γs43 : FuncId → Con := ext Γs42 34 drawSuffixAt_pureC
attribute [go_sem] Γs43
theorem Γs43_ok : ∀ g, ConOk Try.prog g (Γs43 g) := ext_ok Γs42_ok drawSuffixAt_pureC_ok

/-! What LassoSame is asked of. -/
noncomputable def eA (xs : List UInt8) : List Int := dS (cut2000 xs) 0
noncomputable def eB (xs : List UInt8) : List Int := dL (cut2000 xs) 0
noncomputable def eP (xs : List UInt8) : Int := dq2 (cut2000 xs) 0 + 1
noncomputable def eK (xs : List UInt8) : Int := pkI (cut2000 xs) (eP xs) 2
noncomputable def eC (xs : List UInt8) : List Int := if eK xs = 0 then muS (cut2000 xs) (eP xs + 1) (eA xs) else dS (cut2000 xs) (eP xs + 1)
noncomputable def eD (xs : List UInt8) : List Int := if eK xs = 0 then muL (cut2000 xs) (eP xs + 1) (eB xs) else dL (cut2000 xs) (eP xs + 1)
theorem e_range (xs : List UInt8) : 0 ≤ eP xs ∧ eP xs ≤ 1000 ∧ (eA xs).length ≤ 1000 ∧ 1 ≤ (eB xs).length ∧ (eB xs).length ≤ 1000 ∧ (eC xs).length ≤ 1000 ∧ (eD xs).length ≤ 1000 := by
  obtain ⟨r1, r2, r3, r4, r5, r6, r7⟩ := d_range (cut2000 xs) (p := 0) (by omega)
  obtain ⟨l1, l2⟩ := dL_range (cut2000 xs) (p := 0) (by omega)
  have hp : 0 ≤ eP xs ∧ eP xs ≤ 1000 := by unfold eP; omega
  obtain ⟨m1, m2, m3, m4⟩ := mu_range (cut2000 xs) (eP xs + 1) (eA xs) (eB xs)
  obtain ⟨k1, k2⟩ := dL_range (cut2000 xs) (p := eP xs + 1) (by omega)
  obtain ⟨_, _, _, _, q5, _, _⟩ := d_range (cut2000 xs) (p := eP xs + 1) (by omega)
  have ha : (eA xs).length ≤ 5 := r5
  have hb : (eB xs).length ≤ 8 := l2
  refine ⟨hp.1, hp.2, by omega, l1, by omega, ?_, ?_⟩
  · unfold eC; split <;> omega
  · unfold eD; split <;> omega

set_option maxHeartbeats 2000000 in
theorem drawLassoSame_pure (xs : List UInt8)  : Pure Try.prog 19 [li cY xs] (.tup [.st [fr 1 cI (eA xs), fr 1 cI (eB xs)], .st [fr 1 cI (eC xs), fr 1 cI (eD xs)]]) := by
  refine Pure.of_walk Try.func19 rfl (by simp [Try.f19]) (by simp [-List.drop_one, go_sem]) fun B hK => ?_
  obtain ⟨e1, e2, e3, e4, e5, e6, e7⟩ := e_range xs; have hl := cut_len xs; by_cases kk : eK xs = 0
  all_goals (repeat' (first
    | refine AW_seq ?_
    | refine AW_region (id := 0) Γs43_ok [] (by kernel_rfl) ?_; simp  [-List.getD_eq_getElem?_getD, -List.drop_one, ↓splitB_true, ↓splitB_false, go_sem]
    | refine AW_region (id := 1) Γs43_ok [] (by kernel_rfl) ?_; simp  [-List.getD_eq_getElem?_getD, -List.drop_one, ↓splitB_true, ↓splitB_false, go_sem]; try (refine AW_matBox 4 rfl fun b hb => ?_; clear hb)
    | refine AW_region (id := 2) Γs43_ok [] (by kernel_rfl) ?_; simp  [-List.getD_eq_getElem?_getD, -List.drop_one, ↓splitB_true, ↓splitB_false, go_sem, hl, (show dS (cut2000 xs) 0 = eA xs from rfl), (show dL (cut2000 xs) 0 = eB xs from rfl), (show dq2 (cut2000 xs) 0 + 1 = eP xs from rfl)]; try ((refine AW_box2c 5 rfl fun lb x y j1 j2 cp1 cp2 hlb hx hy n1 n2 n3 hc1 hd1 hc2 hd2 => ?_); (have m1 : ¬ lb = b := (by dsimp only at hlb; exact fresh1 hlb)); (have m2 : ¬ x = b := (by dsimp only at hx; exact fresh1 hx)); (have m3 : ¬ y = b := (by dsimp only at hy; exact fresh1 hy)); (clear hlb hx hy))
    | refine AW_region (id := 3) Γs43_ok [] (by kernel_rfl) ?_; simp  [-List.getD_eq_getElem?_getD, -List.drop_one, ↓splitB_true, ↓splitB_false, go_sem, n1, n2, n3, m1, m2, m3, Ne.symm n1, Ne.symm n2, Ne.symm n3, Ne.symm m1, Ne.symm m2, Ne.symm m3, hl, e1, (show eP xs ≤ 1000000 by omega), (show pkI (cut2000 xs) (eP xs) 2 = eK xs from rfl), kk]
    | refine AW_region_snap (id := 4) Γs43_ok mixed [(lb, [.sl x 1 0 (eA xs).length cp1, .sl y 1 0 (eB xs).length cp2])] [] [5] (by kernel_rfl) (by kernel_rfl) (by simp [-List.getD_eq_getElem?_getD, -List.drop_one, ↓splitB_true, ↓splitB_false, go_sem, n1, n2, n3, m1, m2, m3, Ne.symm n1, Ne.symm n2, Ne.symm n3, Ne.symm m1, Ne.symm m2, Ne.symm m3, hl, e3, e4, e5, (show 0 ≤ eP xs + 1 by omega), (show eP xs + 1 ≤ 800000 by omega)]) (by simp [-List.getD_eq_getElem?_getD, -List.drop_one, ↓splitB_true, ↓splitB_false, go_sem, n1, n2, n3, m1, m2, m3, Ne.symm n1, Ne.symm n2, Ne.symm n3, Ne.symm m1, Ne.symm m2, Ne.symm m3, hl, e3, e4, e5, (show 0 ≤ eP xs + 1 by omega), (show eP xs + 1 ≤ 800000 by omega)]) ?_; simp  [-List.getD_eq_getElem?_getD, -List.drop_one, ↓splitB_true, ↓splitB_false, go_sem, n1, n2, n3, m1, m2, m3, Ne.symm n1, Ne.symm n2, Ne.symm n3, Ne.symm m1, Ne.symm m2, Ne.symm m3, hl, e3, e4, e5, (show 0 ≤ eP xs + 1 by omega), (show eP xs + 1 ≤ 800000 by omega)]; try ((refine AW_own2 2 (X := cat cI (eA xs) ++ List.replicate j1 D.any) (Y := cat cI (eB xs) ++ List.replicate j2 D.any) rfl (by simp [upd, n1, n2, n3, m1, m2, m3, Ne.symm n1, Ne.symm n2, Ne.symm n3]) (by simp [upd, n1, n2, n3, m1, m2, m3, Ne.symm n1, Ne.symm n2, Ne.symm n3]) n3 (by simp [cat_length]) (by simp [cat_length]; omega) (by simp [cat_length]) (by simp [cat_length]; omega) fun r hr => ?_))
    | refine AW_region_snap (id := 5) Γs43_ok mixed [(lb, [.sl x 1 0 (eA xs).length cp1, .sl y 1 0 (eB xs).length cp2])] [] [] (by kernel_rfl) (by kernel_rfl) (by simp [-List.getD_eq_getElem?_getD, -List.drop_one, ↓splitB_true, ↓splitB_false, go_sem, n1, n2, n3, m1, m2, m3, Ne.symm n1, Ne.symm n2, Ne.symm n3, Ne.symm m1, Ne.symm m2, Ne.symm m3, hl, (show 0 ≤ eP xs + 1 by omega), (show eP xs + 1 ≤ 900000 by omega)]) (by simp [-List.getD_eq_getElem?_getD, -List.drop_one, ↓splitB_true, ↓splitB_false, go_sem, n1, n2, n3, m1, m2, m3, Ne.symm n1, Ne.symm n2, Ne.symm n3, Ne.symm m1, Ne.symm m2, Ne.symm m3, hl, (show 0 ≤ eP xs + 1 by omega), (show eP xs + 1 ≤ 900000 by omega)]) ?_; simp  [-List.getD_eq_getElem?_getD, -List.drop_one, ↓splitB_true, ↓splitB_false, go_sem, n1, n2, n3, m1, m2, m3, Ne.symm n1, Ne.symm n2, Ne.symm n3, Ne.symm m1, Ne.symm m2, Ne.symm m3, hl, (show 0 ≤ eP xs + 1 by omega), (show eP xs + 1 ≤ 900000 by omega)]; try ((refine AW_own2 2 (X := cat cI (eA xs) ++ List.replicate j1 D.any) (Y := cat cI (eB xs) ++ List.replicate j2 D.any) rfl (by simp [upd, n1, n2, n3, m1, m2, m3, Ne.symm n1, Ne.symm n2, Ne.symm n3]) (by simp [upd, n1, n2, n3, m1, m2, m3, Ne.symm n1, Ne.symm n2, Ne.symm n3]) n3 (by simp [cat_length]) (by simp [cat_length]; omega) (by simp [cat_length]) (by simp [cat_length]; omega) fun r hr => ?_))
    | refine AW_condA (c := .tmp 12) ?_; simp [-List.getD_eq_getElem?_getD, -List.drop_one, ↓splitB_true, ↓splitB_false, go_sem]; try first | (refine ⟨?_, ?_⟩ <;> change AW _ _ _ _ _ _) | (refine ⟨fun c12 => ?_, fun c12 => ?_⟩ <;> (try simp [B_iff, B_not] at c12))
    | (refine AW_block ?_)
    | (refine AW_exit ?_; simp [-List.getD_eq_getElem?_getD, -List.drop_one, ↓splitB_true, ↓splitB_false, go_sem])
    | (refine AW_skip ?_; simp [-List.getD_eq_getElem?_getD, -List.drop_one, ↓splitB_true, ↓splitB_false, go_sem])
    | (refine AW_ret ?_; simp [-List.getD_eq_getElem?_getD, -List.drop_one, ↓splitB_true, ↓splitB_false, go_sem, Try.results19])
    | (intro hx; change AW _ _ _ _ _ _)
    | (refine ⟨?_, ?_⟩ <;> change AW _ _ _ _ _ _)
    | (intro hx; refine ⟨fun hs => ?_, fun hs => ?_⟩)
    | (refine ⟨fun hs => ?_, fun hs => ?_⟩)
    | (refine ⟨?_, fun hs => ?_⟩; change AW _ _ _ _ _ _)
    | (refine ⟨fun hs => ?_, ?_⟩; rotate_left; change AW _ _ _ _ _ _; rotate_left)))
  all_goals (first
    | (simp [eC, eD, kk]; done)
    | skip)
noncomputable def drawLassoSame_pureC : Con := .pure fun
  | [.list n_xs c_xs] => ((Is cY n_xs c_xs), .tup [.st [fr 1 cI (eA (de cY c_xs)), fr 1 cI (eB (de cY c_xs))], .st [fr 1 cI (eC (de cY c_xs)), fr 1 cI (eD (de cY c_xs))]])
  | _ => (False, .any)
attribute [go_sem] drawLassoSame_pureC
theorem drawLassoSame_pureC_ok : ConOk Try.prog 19 drawLassoSame_pureC := by
  refine ⟨callable Try.func19 (by decide) rfl, fun args h => ?_⟩
  revert h
  dsimp only
  split
  · intro h
    obtain ⟨xs, rfl, rfl⟩ := h
    try simp only [de_cat] at *
    exact ⟨drawLassoSame_pure xs, by simp [go_sem]⟩
  · intro h
    exact h.elim
noncomputable def Γs44 : FuncId → Con := ext Γs43 19 drawLassoSame_pureC
attribute [go_sem] Γs44
theorem Γs44_ok : ∀ g, ConOk Try.prog g (Γs44 g) := ext_ok Γs43_ok drawLassoSame_pureC_ok
end Go.Proofs.Ytlbbhkpjjciaiaa.Vm

