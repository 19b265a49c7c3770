/-
  Draws: systems. No conditions.
-/
import Derived.Test.YtljncoikoffijaaE10
namespace Go.Proofs.Ytljncoikoffijaa.Vm
open Go
set_option linter.unusedVariables false
set_option linter.unusedSimpArgs false
set_option maxRecDepth 200000

/-- A system, as a struct. -/
def sS (x : List Int × List Pr) : D := .st [li cI x.1, li cR x.2]
attribute [go_sem] sS
noncomputable def l2System_enc : List Int × List Pr → D := sS
attribute [go_sem] l2System_enc
theorem l2System_flat (x : List Int × List Pr) : dat (l2System_enc x) = l2System_enc x := by simp [go_sem]
def l2System_good  : List Int × List Pr → Prop := fun _ => True
def l2System_gd  (x : (List Int × List Pr) × D) : Prop := l2System_good x.1 ∧ dat x.2 = l2System_enc x.1
noncomputable def l2System_selD  (p : Int) (c : Any) : ((List Int × List Pr) × D) × Int := dsel (l2System_gd) ((([], []) : List Int × List Pr), l2System_enc (([], []))) 2000 p c
noncomputable def l2System_sel  (p : Int) (c : Any) : (List Int × List Pr) × Int := ((l2System_selD p c).1.1, (l2System_selD p c).2)
theorem l2System_okD   (p : Int) (c : Any) : (l2System_good (l2System_sel p c).1 ∧ p ≤ (l2System_sel p c).2 ∧ (l2System_sel p c).2 ≤ p + 2000) ∧ dat (l2System_selD p c).1.2 = l2System_enc (l2System_sel p c).1 := by
  have hx : l2System_good (([], [])) := trivial
  have h := dsel_ok (good := l2System_gd) (x0 := ((([], []) : List Int × List Pr), l2System_enc (([], [])))) ⟨hx, l2System_flat _⟩ (K := 2000) (by omega) (p := p) c
  exact ⟨⟨h.1.1, h.2.1, h.2.2⟩, h.1.2⟩
theorem l2System_ok   (p : Int) (c : Any) : l2System_good (l2System_sel p c).1 ∧ p ≤ (l2System_sel p c).2 ∧ (l2System_sel p c).2 ≤ p + 2000 := (l2System_okD  p c).1
theorem l2System_ret  (ys : List UInt8) (p : Int) (b : Nat) {e_ : Exit} {S_ : St} (x : List Int × List Pr) (p' : Int) (he_ : e_ = .ret ∨ e_ = .normal)
    (h1 : (takeRes Try.prog S_ Try.f60.results.toList).1 ∧ dat (resD (takeRes Try.prog S_ Try.f60.results.toList).2.1) = l2System_enc x ∧ (takeRes Try.prog S_ Try.f60.results.toList).2.2.H b = some [li cY ys, .int .i64 p']) (hg : l2System_good x) (h2 : p ≤ p' ∧ p' ≤ p + 2000) :
    retR Try.prog Try.f60 (fun c => ((l2System_selD p c).1.2, one b [li cY ys, .int .i64 (l2System_selD p c).2])) e_ S_ :=
  ret_draw (good := l2System_gd) (enc := fun x : (List Int × List Pr) × D => x.2) (cells := fun q => [li cY ys, .int .i64 q]) (x, resD (takeRes Try.prog S_ Try.f60.results.toList).2.1) p' he_ ⟨h1.1, rfl, h1.2.2⟩ ⟨hg, h1.2.1⟩ h2
set_option maxHeartbeats 4000000 in
theorem l2System_spec (ys : List UInt8) (p : Int) (b : Nat)  (hl : ys.length ≤ 2000) (h0_ : 0 ≤ p) (hp_ : p + 2000 ≤ 1000000)  : SpecR Try.prog 60 [.ptr b 0] (one b [li cY ys, .int .i64 p]) (fun c => ((l2System_selD p c).1.2, one b [li cY ys, .int .i64 (l2System_selD p c).2])) := by
  refine SpecR.of_walk Try.func60 rfl (by simp [Try.f60]) fun B => ?_
  (repeat' (first
    | refine AW_seq ?_
    | refine AW_region (id := 0) Γe24_ok [] (by kernel_rfl) ?_; simp  [-List.getD_eq_getElem?_getD, -List.drop_one, ↓splitB_true, ↓splitB_false, go_sem]
    | refine AW_region (id := 1) Γe24_ok [] (by kernel_rfl) ?_; simp  [-List.getD_eq_getElem?_getD, -List.drop_one, ↓splitB_true, ↓splitB_false, go_sem, hl, (show 0 ≤ p by omega), (show p ≤ 1000000 by omega), (show 0 ≤ p + 1 by omega), (show p + 1 ≤ 1000000 by omega), (show 0 ≤ p + 1 + 1 by omega), (show p + 1 + 1 ≤ 1000000 by omega)]; try ((generalize pkI ys p 2 = x1 at *); (generalize numI ys (p + 1) [0, 0, 1, 3] = x2 at *); (refine AW_boxNil1N 3 2 rfl ?_); (refine AW_matBox 3 rfl fun sb hsb => ?_); (have hbs : ¬ b = sb := (by rintro rfl; simp [go_sem] at hsb)); (clear hsb); (refine AW_gen (fun H1 => H1 b = some [.list ys.length (cat cY ys), .int .i64 (p + 1 + 1)] ∧ H1 sb = some [.fr 1 3 [.int .i64 x1, .int .i64 x2, .int .i64 0], .fr 2 0 []]) ⟨by simp [go_sem, hbs], by simp [go_sem, hbs]⟩ fun H1 ⟨w1, w2⟩ => ?_))
    | refine AW_region (id := 2) Γe24_ok [] (by kernel_rfl) ?_; simp  [-List.getD_eq_getElem?_getD, -List.drop_one, ↓splitB_true, ↓splitB_false, go_sem, w1, hl, (show 0 ≤ p + 1 + 1 by omega), (show p + 1 + 1 ≤ 1000000 by omega), (show 0 ≤ p + 1 + 1 + 1 by omega), (show p + 1 + 1 + 1 ≤ 1000000 by omega)]; try ((have hr := numI_range ys (p := p + 1 + 1) (by omega) (xs := [2, 1, 2, 3]) (lo := 1) (hi := 3) (by simp) (by simp)); (generalize numI ys (p + 1 + 1) [2, 1, 2, 3] = kk at *))
    | refine AW_region (id := 3) Γe24_ok [] (by kernel_rfl) ?_; simp  [-List.getD_eq_getElem?_getD, -List.drop_one, ↓splitB_true, ↓splitB_false, go_sem]
    | refine AW_region (id := 5) Γe24_ok [] (by kernel_rfl) ?_; simp  [-List.getD_eq_getElem?_getD, -List.drop_one, ↓splitB_true, ↓splitB_false, go_sem, g5, hl, (show 0 ≤ q.2.2.1 by omega), (show q.2.2.1 ≤ 1000000 by omega), (show 0 ≤ q.2.2.1 + 1 by omega), (show q.2.2.1 + 1 ≤ 1000000 by omega)]; try ((have hr5 := numI_range ys (p := q.2.2.1) (by omega) (xs := [2, 3, 1, 2]) (lo := 1) (hi := 3) (by simp) (by simp)); (generalize numI ys q.2.2.1 [2, 3, 1, 2] = lc at *); (refine AW_boxNil1N 5 10 rfl ?_); (refine AW_matBox 5 rfl fun pb hpb => ?_); (have hbp : ¬ b = pb := (by rintro rfl; simp [upd] at hpb)); (have hsp : ¬ sb = pb := (by rintro rfl; simp [upd, Ne.symm hbs, g6] at hpb)); (clear hpb); (refine AW_gen (fun H2 => H2 b = some [.list ys.length (cat cY ys), .int .i64 (q.2.2.1 + 1)] ∧ H2 sb = some [.fr 1 3 [.int .i64 x1, .int .i64 x2, .int .i64 0], .fr 2 q.1.length (cat cR q.1)] ∧ H2 pb = some [.int .i64 lc, .fr 10 0 []]) ⟨by simp [upd, hbp], by simp [upd, hsp, Ne.symm hbs, g6], by simp [upd]⟩ fun H2 ⟨v1, v2, v3⟩ => ?_))
    | refine AW_region (id := 6) Γe24_ok [] (by kernel_rfl) ?_; simp  [-List.getD_eq_getElem?_getD, -List.drop_one, ↓splitB_true, ↓splitB_false, go_sem, v1, hl, (show 0 ≤ q.2.2.1 + 1 by omega), (show q.2.2.1 + 1 ≤ 1000000 by omega), (show 0 ≤ q.2.2.1 + 1 + 1 by omega), (show q.2.2.1 + 1 + 1 ≤ 1000000 by omega)]; try ((have hr6 := numI_range ys (p := q.2.2.1 + 1) (by omega) (xs := [3, 4, 2, 5, 1]) (lo := 1) (hi := 5) (by simp) (by simp)); (generalize numI ys (q.2.2.1 + 1) [3, 4, 2, 5, 1] = mm at *))
    | refine AW_region (id := 7) Γe24_ok [] (by kernel_rfl) ?_; simp  [-List.getD_eq_getElem?_getD, -List.drop_one, ↓splitB_true, ↓splitB_false, go_sem]
    | ((refine AW_matCell pb 1 (all := [.int .i64 lc, .fr 10 r.1.length (cat cE r.1)]) f7 rfl fun u cu ju hu hcu hdu => ?_); (have ub : ¬ u = b := (by intro e; rw [e] at hu; dsimp only at hu; rw [f5] at hu; cases hu)); (have us : ¬ u = sb := (by intro e; rw [e] at hu; dsimp only at hu; rw [f6] at hu; cases hu)); (have up : ¬ u = pb := (by intro e; rw [e] at hu; dsimp only at hu; rw [f7] at hu; cases hu)); (clear hu)); refine AW_region_snap (id := 9) Γe24_ok mixed [(pb, [.int .i64 lc, .sl u 10 0 r.1.length cu])] [] [5] (by kernel_rfl) (by kernel_rfl) (by simp [-List.getD_eq_getElem?_getD, -List.drop_one, ↓splitB_true, ↓splitB_false, go_sem, f5, f6, hl, hbp, hbs, hsp, Ne.symm hbp, Ne.symm hbs, Ne.symm hsp, ub, us, up, Ne.symm ub, Ne.symm us, Ne.symm up, (show 0 ≤ r.2.2.1 by omega), (show lc ≤ 1000000 by omega), (show r.2.2.1 + 115 ≤ 1000000 by omega), hdu, (show r.1.length ≤ 9223372036854775806 by omega), (show 2 * (r.1.length + 1) * 112 ≤ 281474976710656 by omega)]) (by simp [-List.getD_eq_getElem?_getD, -List.drop_one, ↓splitB_true, ↓splitB_false, go_sem, f5, f6, hl, hbp, hbs, hsp, Ne.symm hbp, Ne.symm hbs, Ne.symm hsp, ub, us, up, Ne.symm ub, Ne.symm us, Ne.symm up, (show 0 ≤ r.2.2.1 by omega), (show lc ≤ 1000000 by omega), (show r.2.2.1 + 115 ≤ 1000000 by omega), hdu, (show r.1.length ≤ 9223372036854775806 by omega), (show 2 * (r.1.length + 1) * 112 ≤ 281474976710656 by omega)]) ?_; simp  [-List.getD_eq_getElem?_getD, -List.drop_one, ↓splitB_true, ↓splitB_false, go_sem, f5, f6, hl, hbp, hbs, hsp, Ne.symm hbp, Ne.symm hbs, Ne.symm hsp, ub, us, up, Ne.symm ub, Ne.symm us, Ne.symm up, (show 0 ≤ r.2.2.1 by omega), (show lc ≤ 1000000 by omega), (show r.2.2.1 + 115 ≤ 1000000 by omega), hdu, (show r.1.length ≤ 9223372036854775806 by omega), (show 2 * (r.1.length + 1) * 112 ≤ 281474976710656 by omega)]; try (intro c9; have z0 := l2DrawEdge_ok lc (by omega) r.2.2.1 c9; generalize l2DrawEdge_sel lc r.2.2.1 c9 = z at *; obtain ⟨-, z1, z2⟩ := z0; obtain ⟨t, p2⟩ := z; dsimp only at z1 z2; refine AW_gen (fun H3 => H3 b = some [.list ys.length (cat cY ys), .int .i64 p2] ∧ H3 sb = some [.fr 1 3 [.int .i64 x1, .int .i64 x2, .int .i64 0], .fr 2 q.1.length (cat cR q.1)] ∧ H3 pb = some [.int .i64 lc, .fr 10 (r.1 ++ [t]).length (cat cE (r.1 ++ [t]))]) ⟨by simp [upd, hbp, hbs, hsp, Ne.symm hbp, Ne.symm hbs, Ne.symm hsp, ub, us, up, Ne.symm ub, Ne.symm us, Ne.symm up], by simp [upd, hbp, hbs, hsp, Ne.symm hbp, Ne.symm hbs, Ne.symm hsp, ub, us, up, Ne.symm ub, Ne.symm us, Ne.symm up, f6], by simp [upd, hbp, hbs, hsp, Ne.symm hbp, Ne.symm hbs, Ne.symm hsp, ub, us, up, Ne.symm ub, Ne.symm us, Ne.symm up, cat_append, cat_one, cE, li]⟩ fun H3 ⟨u1, u2, u3⟩ => ?_)
    | refine AW_region (id := 8) Γe24_ok [] (by kernel_rfl) ?_; simp  [-List.getD_eq_getElem?_getD, -List.drop_one, ↓splitB_true, ↓splitB_false, go_sem, wrap_in (x := r.2.1 - 1) (by omega) (by omega)]
    | ((refine AW_shutCell pb 1 (all := [.int .i64 lc, .fr 10 r.1.length (cat cE r.1)]) f7 rfl ?_)); refine AW_region (id := 10) Γe24_ok [] (by kernel_rfl) ?_; simp  [-List.getD_eq_getElem?_getD, -List.drop_one, ↓splitB_true, ↓splitB_false, go_sem, f6, hbp, hbs, hsp, Ne.symm hbp, Ne.symm hbs, Ne.symm hsp, dat, datL_map, (show q.1.length ≤ 9223372036854775806 by omega), (show 2 * (q.1.length + 1) * 32 ≤ 281474976710656 by omega)]; try (refine AW_gen (fun H5 => H5 b = some [.list ys.length (cat cY ys), .int .i64 r.2.2.1] ∧ H5 sb = some [.fr 1 3 [.int .i64 x1, .int .i64 x2, .int .i64 0], .fr 2 (q.1 ++ [Pr.mk lc r.1]).length (cat cR (q.1 ++ [Pr.mk lc r.1]))]) ⟨by simp [upd, hbp, hbs, hsp, Ne.symm hbp, Ne.symm hbs, Ne.symm hsp, f5], by simp [upd, hbp, hbs, hsp, Ne.symm hbp, Ne.symm hbs, Ne.symm hsp, cat_append, cat_one, cR, li]⟩ fun H5 ⟨y1, y2⟩ => ?_)
    | refine AW_region (id := 4) Γe24_ok [] (by kernel_rfl) ?_; simp  [-List.getD_eq_getElem?_getD, -List.drop_one, ↓splitB_true, ↓splitB_false, go_sem, wrap_in (x := q.2.1 - 1) (by omega) (by omega)]
    | refine AW_region (id := 11) Γe24_ok [] (by kernel_rfl) ?_; simp  [-List.getD_eq_getElem?_getD, -List.drop_one, ↓splitB_true, ↓splitB_false, go_sem, g6]
    | refine AW_condA (c := .tmp 18) ?_; simp [-List.getD_eq_getElem?_getD, -List.drop_one, ↓splitB_true, ↓splitB_false, go_sem]; try first | (refine ⟨?_, ?_⟩ <;> change AW _ _ _ _ _ _) | (refine ⟨fun c18 => ?_, fun c18 => ?_⟩ <;> (try simp [B_iff, B_not] at c18))
    | refine AW_condA (c := .tmp 29) ?_; simp [-List.getD_eq_getElem?_getD, -List.drop_one, ↓splitB_true, ↓splitB_false, go_sem]; try first | (refine ⟨?_, ?_⟩ <;> change AW _ _ _ _ _ _) | (refine ⟨fun c29 => ?_, fun c29 => ?_⟩ <;> (try simp [B_iff, B_not] at c29))
    | (refine AW_block (id := 0) (AW_loop (ι := List Pr × Int × Int × Hp) (fun q : List Pr × Int × Int × Hp => ⟨(upd (upd (upd (upd (fun _ => .any) 0 (.ptr b 0)) 2 (.box [.nil, .nil])) 3 (.ptr sb 0)) 4 (.int .i64 q.2.1)), q.2.2.2⟩) (fun q => 0 ≤ q.2.1 ∧ q.2.1 ≤ 3 ∧ (q.1.length : Int) + q.2.1 ≤ 3 ∧ p ≤ q.2.2.1 ∧ q.2.2.1 ≤ p + 3 + (3 - q.2.1) * 600 ∧ q.2.2.2 b = some [.list ys.length (cat cY ys), .int .i64 q.2.2.1] ∧ q.2.2.2 sb = some [.fr 1 3 [.int .i64 x1, .int .i64 x2, .int .i64 0], .fr 2 q.1.length (cat cR q.1)]) (fun q => q.2.1.toNat) (([], kk, p + 1 + 1 + 1, upd H1 b (some [.list ys.length (cat cY ys), .int .i64 (p + 1 + 1 + 1)]))) ?_ ?_ ?_); exact ⟨by dsimp only; omega, by dsimp only; omega, by simp; omega, by dsimp only; omega, by dsimp only; omega, by simp [upd], by simp [upd, Ne.symm hbs, w2, cat_nil]⟩; ((repeat' (first | exact sub_noneH (by assumption) | exact sub_none | refine sub_upd ?_ ?_ | refine sub_noneE ?_)) <;> simp [-List.getD_eq_getElem?_getD, -List.drop_one, ↓splitB_true, ↓splitB_false, go_sem]); rintro q ⟨g0, g1, g2, g3, g4, g5, g6⟩)
    | (refine ⟨(q.1 ++ [Pr.mk lc r.1], q.2.1 - 1, r.2.2.1, H5), ⟨by dsimp only; omega, by dsimp only; omega, by simp; omega, by dsimp only; omega, by dsimp only; omega, y1, y2⟩, by first | omega | (simp; done) | (simp; omega), ?_⟩; ((repeat' (first | exact sub_noneH (by assumption) | exact sub_none | refine sub_upd ?_ ?_ | refine sub_noneE ?_)) <;> simp [-List.getD_eq_getElem?_getD, -List.drop_one, ↓splitB_true, ↓splitB_false, go_sem, ]))
    | (refine AW_block (id := 2) (AW_loop (ι := List Ed × Int × Int × Hp) (fun r : List Ed × Int × Int × Hp => ⟨(upd (upd (upd (upd (upd (upd (fun _ => .any) 0 (.ptr b 0)) 2 (.box [.nil, .nil])) 3 (.ptr sb 0)) 4 (.int .i64 q.2.1)) 5 (.ptr pb 0)) 6 (.int .i64 r.2.1)), r.2.2.2⟩) (fun r => r.2.1 ≤ 5 ∧ 0 ≤ r.2.1 ∧ (r.1.length : Int) + r.2.1 ≤ 5 ∧ q.2.2.1 ≤ r.2.2.1 ∧ r.2.2.1 ≤ q.2.2.1 + 2 + (5 - r.2.1) * 115 ∧ r.2.2.2 b = some [.list ys.length (cat cY ys), .int .i64 r.2.2.1] ∧ r.2.2.2 sb = some [.fr 1 3 [.int .i64 x1, .int .i64 x2, .int .i64 0], .fr 2 q.1.length (cat cR q.1)] ∧ r.2.2.2 pb = some [.int .i64 lc, .fr 10 r.1.length (cat cE r.1)]) (fun r => r.2.1.toNat) (([], mm, q.2.2.1 + 1 + 1, upd H2 b (some [.list ys.length (cat cY ys), .int .i64 (q.2.2.1 + 1 + 1)]))) ?_ ?_ ?_); exact ⟨by dsimp only; omega, by dsimp only; omega, by simp; omega, by dsimp only; omega, by dsimp only; omega, by simp [upd], by simp [upd, Ne.symm hbs, v2], by simp [upd, Ne.symm hbp, v3, cat_nil]⟩; ((repeat' (first | exact sub_noneH (by assumption) | exact sub_none | refine sub_upd ?_ ?_ | refine sub_noneE ?_)) <;> simp [-List.getD_eq_getElem?_getD, -List.drop_one, ↓splitB_true, ↓splitB_false, go_sem]); rintro r ⟨f1, f0, f2, f3, f4, f5, f6, f7⟩)
    | (refine ⟨(r.1 ++ [t], r.2.1 - 1, p2, H3), ⟨by dsimp only; omega, by dsimp only; omega, by simp; omega, by dsimp only; omega, by dsimp only; omega, u1, u2, u3⟩, by first | omega | (simp; done) | (simp; omega), ?_⟩; ((repeat' (first | exact sub_noneH (by assumption) | exact sub_none | refine sub_upd ?_ ?_ | refine sub_noneE ?_)) <;> simp [-List.getD_eq_getElem?_getD, -List.drop_one, ↓splitB_true, ↓splitB_false, go_sem, ]))
    | (refine AW_block ?_)
    | (refine AW_exit ?_; simp [-List.getD_eq_getElem?_getD, -List.drop_one, ↓splitB_true, ↓splitB_false, go_sem])
    | (refine AW_skip ?_; simp [-List.getD_eq_getElem?_getD, -List.drop_one, ↓splitB_true, ↓splitB_false, go_sem])
    | (refine AW_ret ?_; try simp [-List.getD_eq_getElem?_getD, -List.drop_one, ↓splitB_true, ↓splitB_false, go_sem, Try.results60])
    | (intro hx; change AW _ _ _ _ _ _)
    | (intro hx; change retR _ _ _ _ _)
    | (refine ⟨?_, ?_⟩ <;> change AW _ _ _ _ _ _)
    | (intro hx; refine ⟨fun hs => ?_, fun hs => ?_⟩)
    | (refine ⟨fun hs => ?_, fun hs => ?_⟩)
    | (refine ⟨?_, fun hs => ?_⟩; change AW _ _ _ _ _ _)
    | (refine ⟨fun hs => ?_, ?_⟩; rotate_left; change AW _ _ _ _ _ _; rotate_left)
    | ((fail_if_success change retR _ _ _ _ _); (exfalso; omega))))
  all_goals (first
    | (refine l2System_ret _ _ _ (([x1, x2, 0], q.1)) (q.2.2.1) ?_ ?_ ?_ ?_; (first | exact Or.inl rfl | exact Or.inr rfl); (focus (simp [-List.getD_eq_getElem?_getD, -List.drop_one, ↓splitB_true, ↓splitB_false, go_sem, Try.results60, li, dat, datL_map, hbs, g5, cat_cons, cI, cat_nil]; done)); (focus ((trivial); done)); (focus (refine ⟨?_, ?_⟩ <;> omega)))
    | skip)
noncomputable def l2SystemC : Con := .rel fun args H => match args with
  | [.ptr b 0] => match H b with
    | some [.list m cs, .int .i64 p] => ((Is cY m cs) ∧ (m ≤ 2000) ∧ (0 ≤ p) ∧ (p + 2000 ≤ 1000000), fun c => (l2System_enc (l2System_sel p c).1, upd H b (some [.list m cs, .int .i64 (l2System_sel p c).2])))
    | _ => (False, fun _ => (.any, H))
  | _ => (False, fun _ => (.any, H))
attribute [go_sem] l2SystemC
theorem l2SystemC_ok : ConOk Try.prog 60 l2SystemC := by
  refine ⟨callable Try.func60 (by decide) rfl, fun args H h => ?_⟩
  revert h
  dsimp only
  split
  · split
    · rename_i hH
      intro h
      obtain ⟨⟨ys, rfl, rfl⟩, hl, h0_, hp_⟩ := h
      try simp only [de_cat] at *
      exact SpecR.enc ((l2System_spec ys _ _ hl h0_ hp_ ).frame hH).shut fun c => Prod.ext (l2System_okD  _ _).2.symm rfl
    · intro h; exact h.elim
  · intro h
    exact h.elim
noncomputable def Γe25 : FuncId → Con := ext Γe24 60 l2SystemC
attribute [go_sem] Γe25
theorem Γe25_ok : ∀ g, ConOk Try.prog g (Γe25 g) := ext_ok Γe24_ok l2SystemC_ok
end Go.Proofs.Ytljncoikoffijaa.Vm

