/-
  Lassos drawn: a copy, sometimes made invalid. No conditions.
-/
import Derived.Test.YtlbbhkpjjciaiaaD2
namespace Go.Proofs.Ytlbbhkpjjciaiaa.Vm
open Go
set_option linter.unusedVariables false
set_option linter.unusedSimpArgs false
set_option maxRecDepth 200000

noncomputable def lassoC : Con := .gen fun args H => match args with
  | [.ptr b 0] => match H b with
    | some [.list m cs, .int .i64 p] => (Is cY m cs ∧ 0 ≤ p ∧ p ≤ 900000 ∧ m ≤ 2000, .st [fr 1 cI (dS (de cY cs) p), fr 1 cI (dL (de cY cs) p)], upd H b (some [.list m cs, .int .i64 (dq2 (de cY cs) p + 1)]))
    | _ => (False, .any, H)
  | _ => (False, .any, H)
attribute [go_sem] lassoC
theorem lassoC_ok : ConOk Try.prog 53 lassoC := by
  refine ⟨callable Try.func53 (by decide) rfl, fun args H h => ?_⟩
  revert h
  dsimp only
  split
  · rename_i b
    split
    · rename_i m cs p hH
      rintro ⟨⟨ys, rfl, rfl⟩, h0, h1, h2⟩
      rw [de_cat]
      exact lasso_spec ys p b H hH h0 h1 h2
    · intro h; exact h.elim
  · intro h
    exact h.elim
noncomputable def Γs40 : FuncId → Con := ext Γs39 53 lassoC
attribute [go_sem] Γs40
theorem Γs40_ok : ∀ g, ConOk Try.prog g (Γs40 g) := ext_ok Γs39_ok lassoC_ok

@[go_sem] theorem mut1_is : Is cI 4 [.int .i64 8, .int .i64 (-1), .int .i64 7, .int .i64 9223372036854775807] = True := eq_true ⟨([8, -1, 7, 9223372036854775807] : List Int), rfl, rfl⟩
@[go_sem] theorem mut1_de : de cI [.int .i64 8, .int .i64 (-1), .int .i64 7, .int .i64 9223372036854775807] = ([8, -1, 7, 9223372036854775807] : List Int) := de_cat (f := cI) [8, -1, 7, 9223372036854775807]
@[go_sem] theorem mut2_is : Is cI 3 [.int .i64 8, .int .i64 0, .int .i64 (-9223372036854775808)] = True := eq_true ⟨([8, 0, -9223372036854775808] : List Int), rfl, rfl⟩
@[go_sem] theorem mut2_de : de cI [.int .i64 8, .int .i64 0, .int .i64 (-9223372036854775808)] = ([8, 0, -9223372036854775808] : List Int) := de_cat (f := cI) [8, 0, -9223372036854775808]

/-- A stem drawn longer and longer. -/
noncomputable def stre (ys : List UInt8) : Nat → Int → Nat → Nat × Int
  | 0, p, n => (n, p + 1)
  | f + 1, p, n => if (n : Int) < 80 + pkI ys p 2 then stre ys f (p + 1) (n + 1) else (n, p + 1)
theorem stre_yes {ys : List UInt8} {p : Int} {n : Nat} (hp : p ≤ 1000000) (h : (n : Int) < 80 + pkI ys p 2) : stre ys (82 - n) p n = stre ys (82 - (n + 1)) (p + 1) (n + 1) := by
  have := (pkI_range ys hp (n := 2) (by omega)).2
  obtain ⟨f, hf⟩ : ∃ f, 82 - n = f + 1 := ⟨81 - n, by omega⟩
  rw [hf, stre, if_pos h, show 82 - (n + 1) = f by omega]
theorem stre_no {ys : List UInt8} {p : Int} {n : Nat} (h : ¬ (n : Int) < 80 + pkI ys p 2) : stre ys (82 - n) p n = (n, p + 1) := by
  cases hf : 82 - n with
  | zero => rfl
  | succ f => rw [stre, if_neg h]
noncomputable def muS (ys : List UInt8) (p : Int) (a : List Int) : List Int :=
  if pkI ys p 40 = 2 then a ++ [numI ys (p + 1) [8, 0, -9223372036854775808]] else if pkI ys p 40 = 3 then a ++ List.replicate ((stre ys (82 - a.length) (p + 1) a.length).1 - a.length) 1 else a
noncomputable def muL (ys : List UInt8) (p : Int) (c : List Int) : List Int :=
  if pkI ys p 40 = 0 then [] else if pkI ys p 40 = 1 then c.set 0 (numI ys (p + 1) [8, -1, 7, 9223372036854775807]) else c
noncomputable def muP (ys : List UInt8) (p : Int) (a : List Int) : Int :=
  if pkI ys p 40 = 1 ∨ pkI ys p 40 = 2 then p + 2 else if pkI ys p 40 = 3 then (stre ys (82 - a.length) (p + 1) a.length).2 else p + 1
theorem set_cat {c : List Int} (h : 1 ≤ c.length) (v : Int) (junk : List D) : stSeg (cat cI c ++ junk) 0 [.int .i64 v] = cat cI (c.set 0 v) ++ junk := by
  cases c with
  | nil => simp at h
  | cons x c => rfl

set_option maxHeartbeats 4000000 in
theorem mutF_spec (ys : List UInt8) (p : Int) (a c : List Int) (b : Nat) (H : Hp) (hH : H b = some [li cY ys, .int .i64 p]) (h0 : 0 ≤ p) (hp : p ≤ 800000) (hl : ys.length ≤ 2000) (ha : a.length ≤ 1000) (hb : 1 ≤ c.length) (hc : c.length ≤ 1000) :
    Spec Try.prog 55 [.ptr b 0, .st [fr 1 cI a, fr 1 cI c]] H (.st [fr 1 cI (muS ys p a), fr 1 cI (muL ys p c)]) (upd H b (some [li cY ys, .int .i64 (muP ys p a)])) := by
  refine Spec.of_walk Try.func55 rfl (by simp [Try.f55]) fun B => ?_
  have hq : 0 ≤ pkI ys p 40 := (pkI_range ys (by omega) (by omega)).1
  rcases (show pkI ys p 40 = 0 ∨ pkI ys p 40 = 1 ∨ pkI ys p 40 = 2 ∨ pkI ys p 40 = 3 ∨ (¬ pkI ys p 40 = 0 ∧ ¬ pkI ys p 40 = 1 ∧ ¬ pkI ys p 40 = 2 ∧ ¬ pkI ys p 40 = 3) by omega) with kk | kk | kk | kk | kk
  all_goals (repeat' (first
    | refine AW_seq ?_
    | refine AW_region (id := 0) Γs40_ok [] (by kernel_rfl) ?_; simp  [-List.getD_eq_getElem?_getD, -List.drop_one, ↓splitB_true, ↓splitB_false, go_sem]; try ((refine AW_box2c 3 rfl fun pb x y j1 j2 cp1 cp2 hpb hx hy n1 n2 n3 hc1 hd1 hc2 hd2 => ?_); (have m1 : ¬ pb = b := (by rintro rfl; dsimp only at hpb; rw [hH] at hpb; cases hpb)); (have m2 : ¬ x = b := (by rintro rfl; dsimp only at hx; rw [hH] at hx; cases hx)); (have m3 : ¬ y = b := (by rintro rfl; dsimp only at hy; rw [hH] at hy; cases hy)))
    | refine AW_region_draw (id := 1) Γs40_ok mixed [] [3] (by kernel_rfl) (by kernel_rfl) (by simp [-List.getD_eq_getElem?_getD, -List.drop_one, ↓splitB_true, ↓splitB_false, go_sem, hH, n1, n2, n3, m1, m2, m3, Ne.symm n1, Ne.symm n2, Ne.symm n3, Ne.symm m1, Ne.symm m2, Ne.symm m3, (show a.length ≤ 9223372036854775807 by omega), (show 2 * a.length * 8 ≤ 281474976710656 by omega), (show c.length ≤ 9223372036854775807 by omega), (show 2 * c.length * 8 ≤ 281474976710656 by omega)]) ?_; simp  [-List.getD_eq_getElem?_getD, -List.drop_one, ↓splitB_true, ↓splitB_false, go_sem, hH, n1, n2, n3, m1, m2, m3, Ne.symm n1, Ne.symm n2, Ne.symm n3, Ne.symm m1, Ne.symm m2, Ne.symm m3, (show a.length ≤ 9223372036854775807 by omega), (show 2 * a.length * 8 ≤ 281474976710656 by omega), (show c.length ≤ 9223372036854775807 by omega), (show 2 * c.length * 8 ≤ 281474976710656 by omega)]; try ((refine AW_matBox 5 rfl fun qb hqb => ?_); (have u0 : ¬ qb = pb ∧ ¬ qb = x ∧ ¬ qb = y := (by dsimp only at hqb; refine ⟨?_, ?_, ?_⟩ <;> (rintro rfl; simp [upd, n1, n2, n3, Ne.symm n1, Ne.symm n2, Ne.symm n3] at hqb))); (obtain ⟨u1, u2, u3⟩ := u0); (have hbq : ¬ b = qb := (by rintro rfl; dsimp only at hqb; rw [upd_ne u3, upd_ne u2, upd_ne u1, hH] at hqb; cases hqb)); (have v0 : H qb = none := (by dsimp only at hqb; rwa [upd_ne u3, upd_ne u2, upd_ne u1] at hqb)); (refine AW_gen (fun H1 => H1 b = some [.list ys.length (cat cY ys), .int .i64 p] ∧ H1 qb = some [.fr 1 a.length (cat cI a), .fr 1 c.length (cat cI c)] ∧ ∀ z cs, ¬ z = b → H z = some cs → H1 z = some cs) ⟨by simp [go_sem, hH, hbq, Ne.symm m1, Ne.symm m2, Ne.symm m3], by simp [go_sem, hbq], fun z cs hz h => by dsimp only; (have z1 : ¬ z = qb := (by rintro rfl; rw [v0] at h; cases h)); (have z2 : ¬ z = y := (by rintro rfl; dsimp only at hy; rw [hy] at h; cases h)); (have z3 : ¬ z = x := (by rintro rfl; dsimp only at hx; rw [hx] at h; cases h)); (have z4 : ¬ z = pb := (by rintro rfl; dsimp only at hpb; rw [hpb] at h; cases h)); rw [upd_ne z1, upd_ne z2, upd_ne z3, upd_ne z4]; exact h⟩ fun H1 ⟨w1, w2, w3⟩ => ?_; refine AW_less (S' := ⟨upd (upd (upd (fun _ => .any) 0 (.ptr b 0)) 4 (.box [.nil, .nil])) 5 (.ptr qb 0), H1⟩) (by ((repeat' (first | exact sub_none | refine sub_upd ?_ ?_)) <;> simp [go_sem])) ?_); clear hqb hpb hx hy)
    | refine AW_region (id := 2) Γs40_ok [] (by kernel_rfl) ?_; simp  [-List.getD_eq_getElem?_getD, -List.drop_one, ↓splitB_true, ↓splitB_false, go_sem, w1, h0, hl, (show p ≤ 1000000 by omega)]
    | refine AW_region (id := 3) Γs40_ok [] (by kernel_rfl) ?_; simp  [-List.getD_eq_getElem?_getD, -List.drop_one, ↓splitB_true, ↓splitB_false, go_sem, kk]
    | refine AW_region (id := 4) Γs40_ok [] (by kernel_rfl) ?_; simp  [-List.getD_eq_getElem?_getD, -List.drop_one, ↓splitB_true, ↓splitB_false, go_sem, hbq, Ne.symm hbq, w2]
    | refine AW_region (id := 5) Γs40_ok [] (by kernel_rfl) ?_; simp  [-List.getD_eq_getElem?_getD, -List.drop_one, ↓splitB_true, ↓splitB_false, go_sem, kk]
    | ((refine AW_matCell qb 1 (all := [.fr 1 a.length (cat cI a), .fr 1 c.length (cat cI c)]) (by dsimp only; rw [upd_ne (Ne.symm hbq)]; exact w2) rfl fun v cv jv hv hcv hdv => ?_); (have vb : ¬ v = b := (by rintro rfl; dsimp only at hv; rw [upd_eq] at hv; cases hv)); (have vq : ¬ v = qb := (by rintro rfl; dsimp only at hv; rw [upd_ne (Ne.symm hbq), w2] at hv; cases hv)); (have v0 : H v = none := (by cases hh : H v with | none => rfl | some cs => (have := w3 v cs vb hh; dsimp only at hv; rw [upd_ne vb] at hv; rw [hv] at this; cases this))); clear hv); refine AW_region_snap (id := 6) Γs40_ok mixed [(qb, [.fr 1 a.length (cat cI a), .sl v 1 0 c.length cv])] [] [] (by kernel_rfl) (by kernel_rfl) (by simp [-List.getD_eq_getElem?_getD, -List.drop_one, ↓splitB_true, ↓splitB_false, go_sem, hbq, Ne.symm hbq, vb, vq, Ne.symm vb, Ne.symm vq, w1, h0, hl, set_cat hb, (show 0 ≤ p + 1 by omega), (show p + 1 ≤ 1000000 by omega), (show 0 < c.length by omega), (show 0 < c.length + jv by omega), (show 1 ≤ c.length + jv by omega)]) (by simp [-List.getD_eq_getElem?_getD, -List.drop_one, ↓splitB_true, ↓splitB_false, go_sem, hbq, Ne.symm hbq, vb, vq, Ne.symm vb, Ne.symm vq, w1, h0, hl, set_cat hb, (show 0 ≤ p + 1 by omega), (show p + 1 ≤ 1000000 by omega), (show 0 < c.length by omega), (show 0 < c.length + jv by omega), (show 1 ≤ c.length + jv by omega)]) ?_; simp  [-List.getD_eq_getElem?_getD, -List.drop_one, ↓splitB_true, ↓splitB_false, go_sem, hbq, Ne.symm hbq, vb, vq, Ne.symm vb, Ne.symm vq, w1, h0, hl, set_cat hb, (show 0 ≤ p + 1 by omega), (show p + 1 ≤ 1000000 by omega), (show 0 < c.length by omega), (show 0 < c.length + jv by omega), (show 1 ≤ c.length + jv by omega)]
    | refine AW_region (id := 7) Γs40_ok [] (by kernel_rfl) ?_; simp  [-List.getD_eq_getElem?_getD, -List.drop_one, ↓splitB_true, ↓splitB_false, go_sem, kk]
    | ((refine AW_matCell qb 0 (all := [.fr 1 a.length (cat cI a), .fr 1 c.length (cat cI c)]) (by dsimp only; rw [upd_ne (Ne.symm hbq)]; exact w2) rfl fun u cu ju hu hcu hdu => ?_); (have ub : ¬ u = b := (by rintro rfl; dsimp only at hu; rw [upd_eq] at hu; cases hu)); (have uq : ¬ u = qb := (by rintro rfl; dsimp only at hu; rw [upd_ne (Ne.symm hbq), w2] at hu; cases hu)); (have u0 : H u = none := (by cases hh : H u with | none => rfl | some cs => (have := w3 u cs ub hh; dsimp only at hu; rw [upd_ne ub] at hu; rw [hu] at this; cases this))); clear hu); refine AW_region_snap (id := 8) Γs40_ok mixed [(qb, [.sl u 1 0 a.length cu, .fr 1 c.length (cat cI c)])] [] [] (by kernel_rfl) (by kernel_rfl) (by simp [-List.getD_eq_getElem?_getD, -List.drop_one, ↓splitB_true, ↓splitB_false, go_sem, hbq, Ne.symm hbq, ub, uq, Ne.symm ub, Ne.symm uq, w1, h0, hl, (show 0 ≤ p + 1 by omega), (show p + 1 ≤ 1000000 by omega), (show cu ≤ a.length + ju by omega), (show a.length + 1 ≤ 9223372036854775807 by omega), (show 2 * (a.length + 1) * 8 ≤ 281474976710656 by omega)]) (by simp [-List.getD_eq_getElem?_getD, -List.drop_one, ↓splitB_true, ↓splitB_false, go_sem, hbq, Ne.symm hbq, ub, uq, Ne.symm ub, Ne.symm uq, w1, h0, hl, (show 0 ≤ p + 1 by omega), (show p + 1 ≤ 1000000 by omega), (show cu ≤ a.length + ju by omega), (show a.length + 1 ≤ 9223372036854775807 by omega), (show 2 * (a.length + 1) * 8 ≤ 281474976710656 by omega)]) ?_; simp  [-List.getD_eq_getElem?_getD, -List.drop_one, ↓splitB_true, ↓splitB_false, go_sem, hbq, Ne.symm hbq, ub, uq, Ne.symm ub, Ne.symm uq, w1, h0, hl, (show 0 ≤ p + 1 by omega), (show p + 1 ≤ 1000000 by omega), (show cu ≤ a.length + ju by omega), (show a.length + 1 ≤ 9223372036854775807 by omega), (show 2 * (a.length + 1) * 8 ≤ 281474976710656 by omega)]
    | refine AW_region (id := 9) Γs40_ok [] (by kernel_rfl) ?_; simp  [-List.getD_eq_getElem?_getD, -List.drop_one, ↓splitB_true, ↓splitB_false, go_sem, kk]
    | (have pkr := pkI_range ys (p := q.2.1) (by omega) (n := 2) (by omega); have hA : a.length + (q.1 - a.length) = q.1 := (by omega)); refine AW_region_snap (id := 10) Γs40_ok mixed [(qb, [.sl u 1 0 q.1 cu, .fr 1 c.length (cat cI c)])] [] [] (by kernel_rfl) (by kernel_rfl) (by simp [-List.getD_eq_getElem?_getD, -List.drop_one, ↓splitB_true, ↓splitB_false, go_sem, hbq, Ne.symm hbq, ub, uq, Ne.symm ub, Ne.symm uq, g5, hl, (show 0 ≤ q.2.1 by omega), (show q.2.1 ≤ 1000000 by omega), wrap_in (x := 80 + pkI ys q.2.1 2) (by omega) (by omega)]) (by simp [-List.getD_eq_getElem?_getD, -List.drop_one, ↓splitB_true, ↓splitB_false, go_sem, hbq, Ne.symm hbq, ub, uq, Ne.symm ub, Ne.symm uq, g5, hl, (show 0 ≤ q.2.1 by omega), (show q.2.1 ≤ 1000000 by omega), wrap_in (x := 80 + pkI ys q.2.1 2) (by omega) (by omega)]) ?_; simp  [-List.getD_eq_getElem?_getD, -List.drop_one, ↓splitB_true, ↓splitB_false, go_sem, hbq, Ne.symm hbq, ub, uq, Ne.symm ub, Ne.symm uq, g5, hl, (show 0 ≤ q.2.1 by omega), (show q.2.1 ≤ 1000000 by omega), wrap_in (x := 80 + pkI ys q.2.1 2) (by omega) (by omega)]
    | (have hcons : cat cI (a ++ List.replicate (q.1 - a.length) 1) ++ [D.int .i64 1] = cat cI (a ++ List.replicate (q.1 + 1 - a.length) 1) := (by rw [show q.1 + 1 - a.length = (q.1 - a.length) + 1 by omega, List.replicate_succ', ← List.append_assoc, cat_append _ [(1 : Int)]]; rfl)); refine AW_region (id := 11) Γs40_ok [] (by kernel_rfl) ?_; simp  [-List.getD_eq_getElem?_getD, -List.drop_one, ↓splitB_true, ↓splitB_false, go_sem, hA, hbq, Ne.symm hbq, ub, uq, Ne.symm ub, Ne.symm uq, hcons, (show (cat cI (a ++ List.replicate (q.1 - a.length) 1) ++ List.replicate ju D.any).take q.1 = cat cI (a ++ List.replicate (q.1 - a.length) 1) from cat_take_app1c _ _ (by simp; omega)), (show cu ≤ q.1 + ju by omega), (show q.1 ≤ q.1 + ju by omega), (show q.1 + 1 ≤ 9223372036854775807 by omega), (show 2 * (q.1 + 1) * 8 ≤ 281474976710656 by omega)]
    | (first | (refine AW_unmatCell qb 1 (b' := v) (sz := 1) (m := c.length) (cp := cv) (all := [.fr 1 a.length (cat cI a), .sl v 1 0 c.length cv]) (cs := cat cI (c.set 0 (numI ys (p + 1) [8, -1, 7, 9223372036854775807])) ++ List.replicate jv .any) (by simp [upd, hbq, Ne.symm hbq, vb, vq, Ne.symm vb, Ne.symm vq]) rfl (Ne.symm vq) (by simp [upd, hbq, Ne.symm hbq, vb, vq, Ne.symm vb, Ne.symm vq]) (by omega) (by simp [cat_length]) (by simp [cat_length]; omega) ?_) | (refine AW_unmatCell qb 0 (b' := u) (sz := 1) (m := q.1) (cp := cu) (all := [.sl u 1 0 q.1 cu, .fr 1 c.length (cat cI c)]) (cs := cat cI (a ++ List.replicate (q.1 - a.length) 1) ++ List.replicate ju .any) (by simp [upd, hbq, Ne.symm hbq, ub, uq, Ne.symm ub, Ne.symm uq]) rfl (Ne.symm uq) (by simp [upd, hbq, Ne.symm hbq, ub, uq, Ne.symm ub, Ne.symm uq]) (by omega) (by simp [cat_length]; omega) (by simp [cat_length]; omega) ?_) | skip); refine AW_region (id := 12) Γs40_ok [] (by kernel_rfl) ?_; simp  [-List.getD_eq_getElem?_getD, -List.drop_one, ↓splitB_true, ↓splitB_false, go_sem, hbq, Ne.symm hbq, w2, tk_app, List.length_set]
    | refine AW_condA (c := .tmp 17) ?_; simp [-List.getD_eq_getElem?_getD, -List.drop_one, ↓splitB_true, ↓splitB_false, go_sem]; try first | (refine ⟨?_, ?_⟩ <;> change AW _ _ _ _ _ _) | (refine ⟨fun c17 => ?_, fun c17 => ?_⟩ <;> (try simp [B_iff, B_not] at c17))
    | refine AW_condA (c := .tmp 21) ?_; simp [-List.getD_eq_getElem?_getD, -List.drop_one, ↓splitB_true, ↓splitB_false, go_sem]; try first | (refine ⟨?_, ?_⟩ <;> change AW _ _ _ _ _ _) | (refine ⟨fun c21 => ?_, fun c21 => ?_⟩ <;> (try simp [B_iff, B_not] at c21))
    | refine AW_condA (c := .tmp 29) ?_; simp [-List.getD_eq_getElem?_getD, -List.drop_one, ↓splitB_true, ↓splitB_false, go_sem]; try first | (refine ⟨?_, ?_⟩ <;> change AW _ _ _ _ _ _) | (refine ⟨fun c29 => ?_, fun c29 => ?_⟩ <;> (try simp [B_iff, B_not] at c29))
    | refine AW_condA (c := .tmp 39) ?_; simp [-List.getD_eq_getElem?_getD, -List.drop_one, ↓splitB_true, ↓splitB_false, go_sem]; try first | (refine ⟨?_, ?_⟩ <;> change AW _ _ _ _ _ _) | (refine ⟨fun c39 => ?_, fun c39 => ?_⟩ <;> (try simp [B_iff, B_not] at c39))
    | refine AW_condA (c := .tmp 47) ?_; simp [-List.getD_eq_getElem?_getD, -List.drop_one, ↓splitB_true, ↓splitB_false, go_sem]; try first | (refine ⟨?_, ?_⟩ <;> change AW _ _ _ _ _ _) | (refine ⟨fun c47 => ?_, fun c47 => ?_⟩ <;> (try simp [B_iff, B_not] at c47))
    | (refine AW_block (id := 1) (AW_loop (ι := Nat × Int × Hp) (fun q : Nat × Int × Hp => ⟨(upd (upd (upd (fun _ => .any) 0 (.ptr b 0)) 4 (.box [.nil, .nil])) 5 (.ptr qb 0)), q.2.2⟩) (fun q => (a.length ≤ q.1 ∧ (q.1 = a.length ∨ q.1 ≤ 81)) ∧ (p + 1 ≤ q.2.1 ∧ q.2.1 ≤ p + 1 + ((q.1 : Int) - a.length)) ∧ stre ys (82 - q.1) q.2.1 q.1 = stre ys (82 - a.length) (p + 1) a.length ∧ q.2.2 b = some [.list ys.length (cat cY ys), .int .i64 q.2.1] ∧ q.2.2 qb = some [.fr 1 q.1 (cat cI (a ++ List.replicate (q.1 - a.length) 1)), .fr 1 c.length (cat cI c)] ∧ ∀ z cs, ¬ z = b → H z = some cs → q.2.2 z = some cs) (fun q => 82 - q.1) ((a.length, p + 1, upd H1 b (some [.list ys.length (cat cY ys), .int .i64 (p + 1)]))) ?_ ?_ ?_); exact ⟨⟨Nat.le_refl _, .inl rfl⟩, ⟨by dsimp only; omega, by dsimp only; omega⟩, rfl, by dsimp only; rw [upd_eq], by dsimp only; rw [upd_ne (Ne.symm hbq), w2]; simp, fun z cs hz h => by dsimp only; rw [upd_ne hz]; exact w3 z cs hz h⟩; ((repeat' (first | exact sub_noneH (by assumption) | exact sub_none | refine sub_upd ?_ ?_ | refine sub_noneE ?_)) <;> simp [-List.getD_eq_getElem?_getD, -List.drop_one, ↓splitB_true, ↓splitB_false, go_sem]); rintro q ⟨⟨g1, g2⟩, ⟨g3, g4⟩, g7, g5, g6, g8⟩ <;> ((refine AW_matCell qb 0 (all := [.fr 1 q.1 (cat cI (a ++ List.replicate (q.1 - a.length) 1)), .fr 1 c.length (cat cI c)]) g6 rfl fun u cu ju hu hcu hdu => ?_); (have ub : ¬ u = b := (by rintro rfl; dsimp only at hu; rw [g5] at hu; cases hu)); (have uq : ¬ u = qb := (by rintro rfl; dsimp only at hu; rw [g6] at hu; cases hu)); (have u0 : H u = none := (by cases hh : H u with | none => rfl | some cs => (have := g8 u cs ub hh; dsimp only at hu; rw [] at hu; rw [hu] at this; cases this))); clear hu))
    | (refine ⟨(q.1 + 1, q.2.1 + 1, upd (upd (upd (upd (upd q.2.2 qb (some [.sl u 1 0 q.1 cu, .fr 1 c.length (cat cI c)])) u (some (cat cI (a ++ List.replicate (q.1 - a.length) 1) ++ List.replicate ju .any))) b (some [.list ys.length (cat cY ys), .int .i64 (q.2.1 + 1)])) u none) qb (some [.fr 1 (q.1 + 1) (cat cI (a ++ List.replicate (q.1 + 1 - a.length) 1)), .fr 1 c.length (cat cI c)])), ⟨⟨by dsimp only; omega, .inr (by dsimp only; omega)⟩, ⟨by dsimp only; omega, by dsimp only; omega⟩, by dsimp only; rw [← stre_yes (by omega) c47]; exact g7, by simp [upd, hbq, ub, Ne.symm ub], by dsimp only; rw [upd_eq], fun z cs hz h => by (have z1 : ¬ z = qb := (by rintro rfl; rw [v0] at h; cases h)); (have z2 : ¬ z = u := (by rintro rfl; rw [u0] at h; cases h)); dsimp only; rw [upd_ne z1, upd_ne z2, upd_ne hz, upd_ne z2, upd_ne z1]; exact g8 z cs hz h⟩, by first | omega | (simp; done) | (simp; omega), ?_⟩; ((repeat' (first | exact sub_noneH (by assumption) | exact sub_none | refine sub_upd ?_ ?_ | refine sub_noneE ?_)) <;> simp [-List.getD_eq_getElem?_getD, -List.drop_one, ↓splitB_true, ↓splitB_false, go_sem]))
    | (refine AW_block ?_)
    | (refine AW_exit ?_; simp [-List.getD_eq_getElem?_getD, -List.drop_one, ↓splitB_true, ↓splitB_false, go_sem])
    | (refine AW_skip ?_; simp [-List.getD_eq_getElem?_getD, -List.drop_one, ↓splitB_true, ↓splitB_false, go_sem])
    | (refine AW_ret ?_; simp [-List.getD_eq_getElem?_getD, -List.drop_one, ↓splitB_true, ↓splitB_false, go_sem, Try.results55])
    | (intro hx; change AW _ _ _ _ _ _)
    | (refine ⟨?_, ?_⟩ <;> change AW _ _ _ _ _ _)
    | (intro hx; refine ⟨fun hs => ?_, fun hs => ?_⟩)
    | (refine ⟨fun hs => ?_, fun hs => ?_⟩)
    | (refine ⟨?_, fun hs => ?_⟩; change AW _ _ _ _ _ _)
    | (refine ⟨fun hs => ?_, ?_⟩; rotate_left; change AW _ _ _ _ _ _; rotate_left)))
  all_goals (first
    | (refine ⟨by simp [muS, muL, kk], fun z cs h => ?_⟩; have e5 : muP ys p a = p + 1 := (by simp [muP, kk]); rw [e5] at h; by_cases e1 : z = b <;> by_cases e2 : z = qb <;> simp_all; done)
    | (refine ⟨by simp [muS, muL, kk], fun z cs h => ?_⟩; have e5 : muP ys p a = p + 1 + 1 := (by simp [muP, kk]; omega); rw [e5] at h; by_cases e1 : z = b <;> by_cases e2 : z = qb <;> by_cases e3 : z = v <;> simp_all; done)
    | (refine ⟨by simp [muS, muL, kk, cat_append, cat_one, cI], fun z cs h => ?_⟩; have e5 : muP ys p a = p + 1 + 1 := (by simp [muP, kk]; omega); rw [e5] at h; by_cases e1 : z = b <;> by_cases e2 : z = qb <;> by_cases e3 : z = u <;> simp_all; done)
    | (have g9 : stre ys (82 - a.length) (p + 1) a.length = (q.1, q.2.1 + 1) := (by rw [← g7]; exact stre_no (by omega)); have e6 : muS ys p a = a ++ List.replicate (q.1 - a.length) 1 := (by simp [muS, kk, g9]); have htk : (cat cI (a ++ List.replicate (q.1 - a.length) 1) ++ List.replicate ju D.any).take q.1 = cat cI (a ++ List.replicate (q.1 - a.length) 1) := (cat_take_app1c _ _ (by simp; omega)); refine ⟨by rw [e6, htk]; simp [muL, kk]; omega, fun z cs h => ?_⟩; have e5 : muP ys p a = q.2.1 + 1 := (by simp [muP, kk, g9]); rw [e5] at h; by_cases e1 : z = b <;> by_cases e2 : z = qb <;> by_cases e3 : z = u <;> simp_all; done)
    | skip)
end Go.Proofs.Ytlbbhkpjjciaiaa.Vm

