/-
  Lassos drawn: another lasso of the same word; the argument's slices have names; what ReduceLasso is asked of. No conditions.
-/
import Derived.Test.YtlbbhkpjjciaiaaD8
namespace Go.Proofs.Ytlbbhkpjjciaiaa.Vm
open Go
set_option linter.unusedVariables false
set_option linter.unusedSimpArgs false
set_option maxRecDepth 200000

set_option maxHeartbeats 4000000 in
theorem rotN_spec (ys : List UInt8) (p : Int) (a c : List Int) (b x y ca cc : Nat) (J1 J2 : List D) (H : Hp) (hH : H b = some [li cY ys, .int .i64 p]) (hx : H x = some (cat cI a ++ J1)) (hy : H y = some (cat cI c ++ J2)) (nxb : ¬ x = b) (nyb : ¬ y = b) (h0 : 0 ≤ p) (hp : p ≤ 800000) (hl : ys.length ≤ 2000) (ha : a.length ≤ 1000) (hb : 1 ≤ c.length) (hc : c.length ≤ 1000) :
    Spec Try.prog 68 [.ptr b 0, .st [.sl x 1 0 a.length ca, .sl y 1 0 c.length cc]] H (.st [fr 1 cI (roS ys p a c), fr 1 cI (roL ys p c)]) (upd H b (some [li cY ys, .int .i64 (p + 1 + 1)])) := by
  refine Spec.of_walk Try.func68 rfl (by simp [Try.f68]) fun B => ?_
  obtain ⟨hk0, hk4⟩ := pkI_range ys (p := p) (by omega) (n := 4) (by omega)
  by_cases kz : pkI ys (p + 1) 3 = 0
  all_goals (repeat' (first
    | refine AW_seq ?_
    | refine AW_region (id := 0) Γs46_ok [] (by kernel_rfl) ?_; simp  [-List.getD_eq_getElem?_getD, -List.drop_one, ↓splitB_true, ↓splitB_false, go_sem]; try ((refine AW_matBox 3 rfl fun pb hpb => ?_); (have m1 : ¬ pb = b := (by rintro rfl; dsimp only at hpb; rw [hH] at hpb; cases hpb)); (have n1 : ¬ pb = x := (by rintro rfl; dsimp only at hpb; rw [hx] at hpb; cases hpb)); (have n2 : ¬ pb = y := (by rintro rfl; dsimp only at hpb; rw [hy] at hpb; cases hpb)))
    | refine AW_region_draw (id := 1) Γs46_ok mixed [] [3] (by kernel_rfl) (by kernel_rfl) (by simp [-List.getD_eq_getElem?_getD, -List.drop_one, ↓splitB_true, ↓splitB_false, go_sem, hH, hx, hy, n1, n2, m1, Ne.symm n1, Ne.symm n2, Ne.symm m1, nxb, nyb, Ne.symm nxb, Ne.symm nyb, (show a.length ≤ 9223372036854775807 by omega), (show 2 * a.length * 8 ≤ 281474976710656 by omega), (show c.length ≤ 9223372036854775807 by omega), (show 2 * c.length * 8 ≤ 281474976710656 by omega)]) ?_; simp  [-List.getD_eq_getElem?_getD, -List.drop_one, ↓splitB_true, ↓splitB_false, go_sem, hH, hx, hy, n1, n2, m1, Ne.symm n1, Ne.symm n2, Ne.symm m1, nxb, nyb, Ne.symm nxb, Ne.symm nyb, (show a.length ≤ 9223372036854775807 by omega), (show 2 * a.length * 8 ≤ 281474976710656 by omega), (show c.length ≤ 9223372036854775807 by omega), (show 2 * c.length * 8 ≤ 281474976710656 by omega)]; try ((refine AW_matBox 5 rfl fun qb hqb => ?_); (have u1 : ¬ qb = pb := (by rintro rfl; dsimp only at hqb; rw [upd_eq] at hqb; cases hqb)); (have hbq : ¬ b = qb := (by rintro rfl; dsimp only at hqb; rw [upd_ne u1, hH] at hqb; cases hqb)); (have v0 : H qb = none := (by dsimp only at hqb; rwa [upd_ne u1] at hqb)); (refine AW_gen (fun H1 => H1 b = some [.list ys.length (cat cY ys), .int .i64 p] ∧ H1 qb = some [.fr 1 a.length (cat cI a), .fr 1 c.length (cat cI c)] ∧ ∀ z cs, ¬ z = b → H z = some cs → H1 z = some cs) ⟨by simp [go_sem, hH, hbq, Ne.symm m1], by simp [go_sem, hbq], fun z cs hz h => by dsimp only; (have z1 : ¬ z = qb := (by rintro rfl; rw [v0] at h; cases h)); (have z4 : ¬ z = pb := (by rintro rfl; dsimp only at hpb; rw [hpb] at h; cases h)); rw [upd_ne z1, upd_ne z4]; exact h⟩ fun H1 ⟨w1, w2, w3⟩ => ?_; refine AW_less (S' := ⟨upd (upd (upd (fun _ => .any) 0 (.ptr b 0)) 4 (.box [.nil, .nil])) 5 (.ptr qb 0), H1⟩) (by ((repeat' (first | exact sub_none | refine sub_upd ?_ ?_)) <;> simp [go_sem])) ?_); clear hqb hpb)
    | refine AW_region (id := 2) Γs46_ok [] (by kernel_rfl) ?_; simp  [-List.getD_eq_getElem?_getD, -List.drop_one, ↓splitB_true, ↓splitB_false, go_sem, w1, h0, hl, (show p ≤ 1000000 by omega)]
    | refine AW_region (id := 3) Γs46_ok [] (by kernel_rfl) ?_; simp  [-List.getD_eq_getElem?_getD, -List.drop_one, ↓splitB_true, ↓splitB_false, go_sem]
    | ((refine AW_matCell qb 0 (all := [.fr 1 (a.length + q.1) (cat cI (rS a c q.1)), .fr 1 c.length (cat cI (rL c q.1))]) g6 rfl fun u cu ju hu hcu hdu => ?_); (have ub : ¬ u = b := (by intro e; rw [e] at hu; dsimp only at hu; rw [g5] at hu; cases hu)); (have uq : ¬ u = qb := (by intro e; rw [e] at hu; dsimp only at hu; rw [g6] at hu; cases hu)); (have u0 : H u = none := (by cases hh : H u with | none => rfl | some cs => (have := g8 u cs ub hh; dsimp only at hu; rw [hu] at this; cases this))); clear hu; (refine AW_matCell qb 1 (all := [.sl u 1 0 (a.length + q.1) cu, .fr 1 c.length (cat cI (rL c q.1))]) (by dsimp only; rw [upd_ne (Ne.symm uq)]; exact upd_eq ..) rfl fun v cv jv hv hcv hdv => ?_); (have vu : ¬ v = u := (by intro e; rw [e] at hv; dsimp only at hv; rw [upd_eq] at hv; cases hv)); (have vq : ¬ v = qb := (by intro e; rw [e] at hv; dsimp only at hv; rw [upd_ne (Ne.symm uq), upd_eq] at hv; cases hv)); (have v1 : q.2 v = none := (by dsimp only at hv; rwa [upd_ne vu, upd_ne vq] at hv)); (have vb : ¬ v = b := (by intro e; rw [e, g5] at v1; cases v1)); (have vz : H v = none := (by cases hh : H v with | none => rfl | some cs => (have := g8 v cs vb hh; rw [v1] at this; cases this))); clear hv; have hls := rS_len a c q.1; have hll := rL_len hb q.1; have hS : cat cI (rS a c q.1) ++ [D.int .i64 (nth (rL c q.1) 0)] = cat cI (rS a c (q.1 + 1)) := (by rw [rS, cat_append _ [nth (rL c q.1) 0]]; rfl)); refine AW_region_snap (id := 5) Γs46_ok mixed [(qb, [.sl u 1 0 (a.length + q.1) cu, .sl v 1 0 c.length cv]), (v, cat cI (rL c q.1) ++ List.replicate jv .any)] [] [5] (by kernel_rfl) (by kernel_rfl) (by simp [-List.getD_eq_getElem?_getD, -List.drop_one, ↓splitB_true, ↓splitB_false, go_sem, hbq, Ne.symm hbq, ub, uq, Ne.symm ub, Ne.symm uq, vb, vq, vu, Ne.symm vb, Ne.symm vq, Ne.symm vu, hS, hll, hls, ld_app (xs := rL c q.1) (i := 0) (by omega), (show 0 < c.length by omega), (show 0 < c.length + jv by omega), (show (cat cI (rS a c q.1) ++ List.replicate ju D.any).take (a.length + q.1) = cat cI (rS a c q.1) from cat_take_app1c _ _ hls.symm), (show cu ≤ a.length + q.1 + ju by omega), (show a.length + q.1 ≤ a.length + q.1 + ju by omega), (show a.length + q.1 + 1 ≤ 9223372036854775807 by omega), (show 2 * (a.length + q.1 + 1) * 8 ≤ 281474976710656 by omega)]) (by simp [-List.getD_eq_getElem?_getD, -List.drop_one, ↓splitB_true, ↓splitB_false, go_sem, hbq, Ne.symm hbq, ub, uq, Ne.symm ub, Ne.symm uq, vb, vq, vu, Ne.symm vb, Ne.symm vq, Ne.symm vu, hS, hll, hls, ld_app (xs := rL c q.1) (i := 0) (by omega), (show 0 < c.length by omega), (show 0 < c.length + jv by omega), (show (cat cI (rS a c q.1) ++ List.replicate ju D.any).take (a.length + q.1) = cat cI (rS a c q.1) from cat_take_app1c _ _ hls.symm), (show cu ≤ a.length + q.1 + ju by omega), (show a.length + q.1 ≤ a.length + q.1 + ju by omega), (show a.length + q.1 + 1 ≤ 9223372036854775807 by omega), (show 2 * (a.length + q.1 + 1) * 8 ≤ 281474976710656 by omega)]) ?_; simp  [-List.getD_eq_getElem?_getD, -List.drop_one, ↓splitB_true, ↓splitB_false, go_sem, hbq, Ne.symm hbq, ub, uq, Ne.symm ub, Ne.symm uq, vb, vq, vu, Ne.symm vb, Ne.symm vq, Ne.symm vu, hS, hll, hls, ld_app (xs := rL c q.1) (i := 0) (by omega), (show 0 < c.length by omega), (show 0 < c.length + jv by omega), (show (cat cI (rS a c q.1) ++ List.replicate ju D.any).take (a.length + q.1) = cat cI (rS a c q.1) from cat_take_app1c _ _ hls.symm), (show cu ≤ a.length + q.1 + ju by omega), (show a.length + q.1 ≤ a.length + q.1 + ju by omega), (show a.length + q.1 + 1 ≤ 9223372036854775807 by omega), (show 2 * (a.length + q.1 + 1) * 8 ≤ 281474976710656 by omega)]
    | (have hL2 : cat cI ((rL c q.1).drop 1) ++ [D.int .i64 (nth (rL c q.1) 0)] = cat cI (rL c (q.1 + 1)) := (by rw [rL, cat_append _ [nth (rL c q.1) 0]]; rfl); have hd1 : ((cat cI (rL c q.1) ++ List.replicate jv D.any).drop 1).take (c.length - 1) = cat cI ((rL c q.1).drop 1) := (by rw [List.drop_append_of_le_length (by rw [cat_length]; omega), cat_drop1]; exact cat_take_app1c _ _ (by simp; omega))); refine AW_region_draw (id := 6) Γs46_ok mixed [] [5] (by kernel_rfl) (by kernel_rfl) (by simp [-List.getD_eq_getElem?_getD, -List.drop_one, ↓splitB_true, ↓splitB_false, go_sem, hbq, Ne.symm hbq, ub, uq, Ne.symm ub, Ne.symm uq, vb, vq, vu, Ne.symm vb, Ne.symm vq, Ne.symm vu, hd1, hL2, hll, ld_app (xs := rL c q.1) (i := 0) (by omega), (show 0 < c.length by omega), (show 0 < c.length + jv by omega), (show 1 ≤ c.length by omega), (show (1 : Int) ≤ c.length by omega), (show ((c.length : Int) - 1).toNat = c.length - 1 by omega), (show c.length - 1 + 1 = c.length by omega), (show c.length - 1 ≤ 9223372036854775807 by omega), (show 2 * (c.length - 1) * 8 ≤ 281474976710656 by omega), (show c.length ≤ 9223372036854775807 by omega), (show 2 * c.length * 8 ≤ 281474976710656 by omega), (show (c.length : Int) ≤ cv by omega), (show (1 : Int) ≤ cv by omega), hcv]) ?_; simp  [-List.getD_eq_getElem?_getD, -List.drop_one, ↓splitB_true, ↓splitB_false, go_sem, hbq, Ne.symm hbq, ub, uq, Ne.symm ub, Ne.symm uq, vb, vq, vu, Ne.symm vb, Ne.symm vq, Ne.symm vu, hd1, hL2, hll, ld_app (xs := rL c q.1) (i := 0) (by omega), (show 0 < c.length by omega), (show 0 < c.length + jv by omega), (show 1 ≤ c.length by omega), (show (1 : Int) ≤ c.length by omega), (show ((c.length : Int) - 1).toNat = c.length - 1 by omega), (show c.length - 1 + 1 = c.length by omega), (show c.length - 1 ≤ 9223372036854775807 by omega), (show 2 * (c.length - 1) * 8 ≤ 281474976710656 by omega), (show c.length ≤ 9223372036854775807 by omega), (show 2 * c.length * 8 ≤ 281474976710656 by omega), (show (c.length : Int) ≤ cv by omega), (show (1 : Int) ≤ cv by omega), hcv]; try (refine AW_gen (fun H2 => H2 b = some [.list ys.length (cat cY ys), .int .i64 (p + 1)] ∧ H2 qb = some [.fr 1 (a.length + (q.1 + 1)) (cat cI (rS a c (q.1 + 1))), .fr 1 c.length (cat cI (rL c (q.1 + 1)))] ∧ ∀ z cs, ¬ z = b → H z = some cs → H2 z = some cs) ⟨by simp [upd, g5, hbq, Ne.symm hbq, ub, uq, Ne.symm ub, Ne.symm uq, vb, vq, vu, Ne.symm vb, Ne.symm vq, Ne.symm vu], by simp [upd, hbq, Ne.symm hbq, ub, uq, Ne.symm ub, Ne.symm uq, vb, vq, vu, Ne.symm vb, Ne.symm vq, Ne.symm vu]; omega, fun z cs hz h => by (have z1 : ¬ z = qb := (by intro e; rw [e, v0] at h; cases h)); (have z2 : ¬ z = u := (by intro e; rw [e, u0] at h; cases h)); (have z3 : ¬ z = v := (by intro e; rw [e, vz] at h; cases h)); simp [upd, z1, z2, z3]; exact g8 z cs hz h⟩ fun H2 ⟨y1, y2, y3⟩ => ?_)
    | refine AW_region (id := 4) Γs46_ok [] (by kernel_rfl) ?_; simp  [-List.getD_eq_getElem?_getD, -List.drop_one, ↓splitB_true, ↓splitB_false, go_sem, wrap_in (x := pkI ys p 4 - q.1 - 1) (by omega) (by omega)]
    | (have hqk : (pkI ys p 4).toNat = q.1 := (by omega)); refine AW_region (id := 7) Γs46_ok [] (by kernel_rfl) ?_; simp  [-List.getD_eq_getElem?_getD, -List.drop_one, ↓splitB_true, ↓splitB_false, go_sem, g5, hl, kz, (show 0 ≤ p + 1 by omega), (show p + 1 ≤ 1000000 by omega)]
    | ((refine AW_matCell qb 1 (all := [.fr 1 (a.length + q.1) (cat cI (rS a c q.1)), .fr 1 c.length (cat cI (rL c q.1))]) (by dsimp only; rw [upd_ne (Ne.symm hbq)]; exact g6) rfl fun v cv jv hv hcv hdv => ?_); (have vq : ¬ v = qb := (by intro e; rw [e] at hv; dsimp only at hv; rw [upd_ne (Ne.symm hbq), g6] at hv; cases hv)); (have vb : ¬ v = b := (by intro e; rw [e] at hv; dsimp only at hv; rw [upd_eq] at hv; cases hv)); (have v1 : q.2 v = none := (by dsimp only at hv; rwa [upd_ne vb] at hv)); (have vz : H v = none := (by cases hh : H v with | none => rfl | some cs => (have := g8 v cs vb hh; rw [v1] at this; cases this))); clear hv; have hll := rL_len hb q.1); refine AW_region_draw (id := 8) Γs46_ok mixed [] [5] (by kernel_rfl) (by kernel_rfl) (by simp [-List.getD_eq_getElem?_getD, -List.drop_one, ↓splitB_true, ↓splitB_false, go_sem, hbq, Ne.symm hbq, vb, vq, Ne.symm vb, Ne.symm vq, hll, (show (cat cI (rL c q.1) ++ List.replicate jv D.any).take c.length = cat cI (rL c q.1) from cat_take_app1c _ _ hll.symm), (show c.length ≤ 9223372036854775807 by omega), (show 2 * c.length * 8 ≤ 281474976710656 by omega), (show c.length + c.length ≤ 9223372036854775807 by omega), (show 2 * (c.length + c.length) * 8 ≤ 281474976710656 by omega), (show c.length ≤ c.length + jv by omega)]) ?_; simp  [-List.getD_eq_getElem?_getD, -List.drop_one, ↓splitB_true, ↓splitB_false, go_sem, hbq, Ne.symm hbq, vb, vq, Ne.symm vb, Ne.symm vq, hll, (show (cat cI (rL c q.1) ++ List.replicate jv D.any).take c.length = cat cI (rL c q.1) from cat_take_app1c _ _ hll.symm), (show c.length ≤ 9223372036854775807 by omega), (show 2 * c.length * 8 ≤ 281474976710656 by omega), (show c.length + c.length ≤ 9223372036854775807 by omega), (show 2 * (c.length + c.length) * 8 ≤ 281474976710656 by omega), (show c.length ≤ c.length + jv by omega)]
    | (have hls := rS_len a c q.1; have hll := rL_len hb q.1); refine AW_region (id := 9) Γs46_ok [] (by kernel_rfl) ?_; simp  [-List.getD_eq_getElem?_getD, -List.drop_one, ↓splitB_true, ↓splitB_false, go_sem, hbq, Ne.symm hbq, g6]
    | refine AW_condA (c := .tmp 19) ?_; simp [-List.getD_eq_getElem?_getD, -List.drop_one, ↓splitB_true, ↓splitB_false, go_sem]; try first | (refine ⟨?_, ?_⟩ <;> change AW _ _ _ _ _ _) | (refine ⟨fun c19 => ?_, fun c19 => ?_⟩ <;> (try simp [B_iff, B_not] at c19))
    | refine AW_condA (c := .tmp 45) ?_; simp [-List.getD_eq_getElem?_getD, -List.drop_one, ↓splitB_true, ↓splitB_false, go_sem]; try first | (refine ⟨?_, ?_⟩ <;> change AW _ _ _ _ _ _) | (refine ⟨fun c45 => ?_, fun c45 => ?_⟩ <;> (try simp [B_iff, B_not] at c45))
    | (refine AW_block (id := 0) (AW_loop (ι := Nat × Hp) (fun q : Nat × Hp => ⟨(upd (upd (upd (upd (fun _ => .any) 0 (.ptr b 0)) 4 (.box [.nil, .nil])) 5 (.ptr qb 0)) 6 (.int .i64 (pkI ys p 4 - q.1))), q.2⟩) (fun q => (q.1 : Int) ≤ pkI ys p 4 ∧ q.2 b = some [.list ys.length (cat cY ys), .int .i64 (p + 1)] ∧ q.2 qb = some [.fr 1 (a.length + q.1) (cat cI (rS a c q.1)), .fr 1 c.length (cat cI (rL c q.1))] ∧ ∀ z cs, ¬ z = b → H z = some cs → q.2 z = some cs) (fun q => (pkI ys p 4).toNat - q.1) ((0, upd H1 b (some [.list ys.length (cat cY ys), .int .i64 (p + 1)]))) ?_ ?_ ?_); exact ⟨by dsimp only; omega, by dsimp only; rw [upd_eq], by dsimp only; rw [upd_ne (Ne.symm hbq), w2]; rfl, fun z cs hz h => by dsimp only; rw [upd_ne hz]; exact w3 z cs hz h⟩; ((repeat' (first | exact sub_noneH (by assumption) | exact sub_none | refine sub_upd ?_ ?_ | refine sub_noneE ?_)) <;> simp [-List.getD_eq_getElem?_getD, -List.drop_one, ↓splitB_true, ↓splitB_false, go_sem]); rintro q ⟨g1, g5, g6, g8⟩)
    | (refine ⟨(q.1 + 1, H2), ⟨by dsimp only; omega, y1, y2, y3⟩, by first | omega | (simp; done) | (simp; omega), ?_⟩; ((repeat' (first | exact sub_noneH (by assumption) | exact sub_none | refine sub_upd ?_ ?_ | refine sub_noneE ?_)) <;> simp [-List.getD_eq_getElem?_getD, -List.drop_one, ↓splitB_true, ↓splitB_false, go_sem, (show pkI ys p 4 - ((q.1 : Int) + 1) = pkI ys p 4 - (q.1 : Int) - 1 by omega), (show pkI ys p 4 - ((q.1 + 1 : Nat) : Int) = pkI ys p 4 - (q.1 : Int) - 1 by omega)]))
    | (refine AW_block ?_)
    | (refine AW_exit ?_; simp [-List.getD_eq_getElem?_getD, -List.drop_one, ↓splitB_true, ↓splitB_false, go_sem])
    | (refine AW_skip ?_; simp [-List.getD_eq_getElem?_getD, -List.drop_one, ↓splitB_true, ↓splitB_false, go_sem])
    | (refine AW_ret ?_; simp [-List.getD_eq_getElem?_getD, -List.drop_one, ↓splitB_true, ↓splitB_false, go_sem, Try.results68])
    | (intro hx; change AW _ _ _ _ _ _)
    | (refine ⟨?_, ?_⟩ <;> change AW _ _ _ _ _ _)
    | (intro hx; refine ⟨fun hs => ?_, fun hs => ?_⟩)
    | (refine ⟨fun hs => ?_, fun hs => ?_⟩)
    | (refine ⟨?_, fun hs => ?_⟩; change AW _ _ _ _ _ _)
    | (refine ⟨fun hs => ?_, ?_⟩; rotate_left; change AW _ _ _ _ _ _; rotate_left)))
  all_goals (first
    | (refine ⟨by simp [roS, roL, kz, hqk, hls, hll, cat_append], fun z cs h => ?_⟩; by_cases e1 : z = b <;> by_cases e2 : z = qb <;> simp_all; done)
    | (refine ⟨by simp [roS, roL, kz, hqk, hls, hll, cat_append], fun z cs h => ?_⟩; by_cases e1 : z = b <;> by_cases e2 : z = qb <;> by_cases e3 : z = v <;> simp_all; done)
    | skip)
noncomputable def rotC : Con := .gen fun args H => match args with
  | [.ptr b 0, .st [.fr 1 n1 c1, .fr 1 n2 c2]] => match H b with
    | some [.list m cs, .int .i64 p] => (Is cY m cs ∧ Is cI n1 c1 ∧ Is cI n2 c2 ∧ 0 ≤ p ∧ p ≤ 800000 ∧ m ≤ 2000 ∧ n1 ≤ 1000 ∧ 1 ≤ n2 ∧ n2 ≤ 1000, .st [fr 1 cI (roS (de cY cs) p (de cI c1) (de cI c2)), fr 1 cI (roL (de cY cs) p (de cI c2))], upd H b (some [.list m cs, .int .i64 (p + 1 + 1)]))
    | _ => (False, .any, H)
  | [.ptr b 0, .st [.sl x 1 0 n1 _, .sl y 1 0 n2 _]] => match H b, H x, H y with
    | some [.list m cs, .int .i64 p], some X, some Y => (¬ x = b ∧ ¬ y = b ∧ Is cY m cs ∧ Is cI n1 (X.take n1) ∧ Is cI n2 (Y.take n2) ∧ 0 ≤ p ∧ p ≤ 800000 ∧ m ≤ 2000 ∧ n1 ≤ 1000 ∧ 1 ≤ n2 ∧ n2 ≤ 1000, .st [fr 1 cI (roS (de cY cs) p (de cI (X.take n1)) (de cI (Y.take n2))), fr 1 cI (roL (de cY cs) p (de cI (Y.take n2)))], upd H b (some [.list m cs, .int .i64 (p + 1 + 1)]))
    | _, _, _ => (False, .any, H)
  | _ => (False, .any, H)
attribute [go_sem] rotC
theorem rotC_ok : ConOk Try.prog 68 rotC := by
  refine ⟨callable Try.func68 (by decide) rfl, fun args H h => ?_⟩
  revert h
  dsimp only
  split
  · rename_i b n1 c1 n2 c2
    split
    · rename_i m cs p hH
      rintro ⟨⟨ys, rfl, rfl⟩, ⟨a, rfl, rfl⟩, ⟨c, rfl, rfl⟩, h0, h1, h2, h3, h4, h5⟩
      rw [de_cat, de_cat, de_cat]
      exact rotF_spec ys p a c b H hH h0 h1 h2 h3 h4 h5
    · intro h; exact h.elim
  · rename_i b x n1 ca y n2 cc
    split
    · rename_i m cs p X Y hH hX hY
      rintro ⟨g1, g2, ⟨ys, rfl, rfl⟩, ⟨a, rfl, ea⟩, ⟨c, rfl, ec⟩, h0, h1, h2, h3, h4, h5⟩
      have e1 : X = cat cI a ++ X.drop a.length := by rw [← ea, List.take_append_drop]
      have e2 : Y = cat cI c ++ Y.drop c.length := by rw [← ec, List.take_append_drop]
      rw [ea, ec, de_cat, de_cat, de_cat]
      exact rotN_spec ys p a c b x y ca cc _ _ H hH (by rw [hX]; exact congrArg some e1) (by rw [hY]; exact congrArg some e2) g1 g2 h0 h1 h2 h3 h4 h5
    · intro h; exact h.elim
  · intro h
    exact h.elim
noncomputable def Γs47 : FuncId → Con := ext Γs46 68 rotC
attribute [go_sem] Γs47
theorem Γs47_ok : ∀ g, ConOk Try.prog g (Γs47 g) := ext_ok Γs46_ok rotC_ok
theorem ro_range (ys : List UInt8) {p : Int} (h0 : 0 ≤ p) (hp : p ≤ 900000) (a : List Int) {c : List Int} (hc : 1 ≤ c.length) : (roS ys p a c).length ≤ a.length + 4 ∧ 1 ≤ (roL ys p c).length ∧ (roL ys p c).length ≤ 2 * c.length := by
  obtain ⟨k0, k4⟩ := pkI_range ys (p := p) (by omega) (n := 4) (by omega)
  have hl := rL_len hc (pkI ys p 4).toNat
  refine ⟨?_, ?_, ?_⟩
  · rw [roS, rS_len]; omega
  · unfold roL; split <;> (try simp only [List.length_append]) <;> omega
  · unfold roL; split <;> (try simp only [List.length_append]) <;> omega

/-! What ReduceLasso is asked of. -/
noncomputable def gS0 (xs : List UInt8) : List Int := roS (cut2000 xs) (dq2 (cut2000 xs) 0 + 1) (dS (cut2000 xs) 0) (dL (cut2000 xs) 0)
noncomputable def gL0 (xs : List UInt8) : List Int := roL (cut2000 xs) (dq2 (cut2000 xs) 0 + 1) (dL (cut2000 xs) 0)
noncomputable def gS (xs : List UInt8) : List Int := muS (cut2000 xs) (dq2 (cut2000 xs) 0 + 1 + 1 + 1) (gS0 xs)
noncomputable def gL (xs : List UInt8) : List Int := muL (cut2000 xs) (dq2 (cut2000 xs) 0 + 1 + 1 + 1) (gL0 xs)
theorem g_range (xs : List UInt8) : 0 ≤ dq2 (cut2000 xs) 0 ∧ dq2 (cut2000 xs) 0 ≤ 100 ∧ (dS (cut2000 xs) 0).length ≤ 1000 ∧ 1 ≤ (dL (cut2000 xs) 0).length ∧ (dL (cut2000 xs) 0).length ≤ 1000 ∧ (gS0 xs).length ≤ 1000 ∧ 1 ≤ (gL0 xs).length ∧ (gL0 xs).length ≤ 1000 ∧ (gS xs).length ≤ 1000 ∧ (gL xs).length ≤ 1000 := by
  obtain ⟨r1, r2, r3, r4, r5, r6, r7⟩ := d_range (cut2000 xs) (p := 0) (by omega)
  obtain ⟨l1, l2⟩ := dL_range (cut2000 xs) (p := 0) (by omega)
  obtain ⟨o1, o2, o3⟩ := ro_range (cut2000 xs) (p := dq2 (cut2000 xs) 0 + 1) (by omega) (by omega) (dS (cut2000 xs) 0) l1
  obtain ⟨m1, m2, m3, m4⟩ := mu_range (cut2000 xs) (dq2 (cut2000 xs) 0 + 1 + 1 + 1) (gS0 xs) (gL0 xs)
  have e1 : (gS0 xs).length ≤ 9 := by unfold gS0; omega
  have e2 : (gL0 xs).length ≤ 16 := by unfold gL0; omega
  refine ⟨by omega, by omega, by omega, l1, by omega, by omega, o2, by omega, by unfold gS; omega, by unfold gL; omega⟩

set_option maxHeartbeats 1000000 in
theorem drawReduceLasso_pure (xs : List UInt8)  : Pure Try.prog 38 [li cY xs] (.st [fr 1 cI (gS xs), fr 1 cI (gL xs)]) := by
  refine Pure.of_walk Try.func38 rfl (by simp [Try.f38]) (by simp [-List.drop_one, go_sem]) fun B hK => ?_
  obtain ⟨e1, e2, e3, e4, e5, e6, e7, e8, e9, e10⟩ := g_range xs; have hl := cut_len xs
  all_goals (repeat' (first
    | refine AW_seq ?_
    | refine AW_region (id := 0) Γs47_ok [] (by kernel_rfl) ?_; simp  [-List.getD_eq_getElem?_getD, -List.drop_one, ↓splitB_true, ↓splitB_false, go_sem]
    | refine AW_region (id := 1) Γs47_ok [] (by kernel_rfl) ?_; simp  [-List.getD_eq_getElem?_getD, -List.drop_one, ↓splitB_true, ↓splitB_false, go_sem]; try (refine AW_matBox 3 rfl fun b hb => ?_)
    | refine AW_region (id := 2) Γs47_ok [] (by kernel_rfl) ?_; simp  [-List.getD_eq_getElem?_getD, -List.drop_one, ↓splitB_true, ↓splitB_false, go_sem, hl, e3, e4, e5, e6, e7, e8, (show roS (cut2000 xs) (dq2 (cut2000 xs) 0 + 1) (dS (cut2000 xs) 0) (dL (cut2000 xs) 0) = gS0 xs from rfl), (show roL (cut2000 xs) (dq2 (cut2000 xs) 0 + 1) (dL (cut2000 xs) 0) = gL0 xs from rfl), (show muS (cut2000 xs) (dq2 (cut2000 xs) 0 + 1 + 1 + 1) (gS0 xs) = gS xs from rfl), (show muL (cut2000 xs) (dq2 (cut2000 xs) 0 + 1 + 1 + 1) (gL0 xs) = gL xs from rfl), (show 0 ≤ dq2 (cut2000 xs) 0 + 1 by omega), (show dq2 (cut2000 xs) 0 + 1 ≤ 800000 by omega), (show 0 ≤ dq2 (cut2000 xs) 0 + 1 + 1 + 1 by omega), (show dq2 (cut2000 xs) 0 + 1 + 1 + 1 ≤ 800000 by omega)]
    | (refine AW_block ?_)
    | (refine AW_exit ?_; simp [-List.getD_eq_getElem?_getD, -List.drop_one, ↓splitB_true, ↓splitB_false, go_sem])
    | (refine AW_skip ?_; simp [-List.getD_eq_getElem?_getD, -List.drop_one, ↓splitB_true, ↓splitB_false, go_sem])
    | (refine AW_ret ?_; simp [-List.getD_eq_getElem?_getD, -List.drop_one, ↓splitB_true, ↓splitB_false, go_sem, Try.results38])
    | (intro hx; change AW _ _ _ _ _ _)
    | (refine ⟨?_, ?_⟩ <;> change AW _ _ _ _ _ _)
    | (intro hx; refine ⟨fun hs => ?_, fun hs => ?_⟩)
    | (refine ⟨fun hs => ?_, fun hs => ?_⟩)
    | (refine ⟨?_, fun hs => ?_⟩; change AW _ _ _ _ _ _)
    | (refine ⟨fun hs => ?_, ?_⟩; rotate_left; change AW _ _ _ _ _ _; rotate_left)))
noncomputable def drawReduceLasso_pureC : Con := .pure fun
  | [.list n_xs c_xs] => ((Is cY n_xs c_xs), .st [fr 1 cI (gS (de cY c_xs)), fr 1 cI (gL (de cY c_xs))])
  | _ => (False, .any)
attribute [go_sem] drawReduceLasso_pureC
theorem drawReduceLasso_pureC_ok : ConOk Try.prog 38 drawReduceLasso_pureC := by
  refine ⟨callable Try.func38 (by decide) rfl, fun args h => ?_⟩
  revert h
  dsimp only
  split
  · intro h
    obtain ⟨xs, rfl, rfl⟩ := h
    try simp only [de_cat] at *
    exact ⟨drawReduceLasso_pure xs, by simp [go_sem]⟩
  · intro h
    exact h.elim
noncomputable def Γs48 : FuncId → Con := ext Γs47 38 drawReduceLasso_pureC
attribute [go_sem] Γs48
theorem Γs48_ok : ∀ g, ConOk Try.prog g (Γs48 g) := ext_ok Γs47_ok drawReduceLasso_pureC_ok
end Go.Proofs.Ytlbbhkpjjciaiaa.Vm

