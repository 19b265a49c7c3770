/-
  Draws: a graph and a path. No conditions.
-/
import Derived.Test.YtljncoikoffijaaE20
namespace Go.Proofs.Ytljncoikoffijaa.Vm
open Go
set_option linter.unusedVariables false
set_option linter.unusedSimpArgs false
set_option maxRecDepth 200000

structure PV where
  pl : List Int
  i : Int
  q : Int
  pb : Nat
  cp : Nat
  j : Nat
  H : Hp
def PVi (ys : List UInt8) (b : Nat) (p0 : Int) (x : PV) : Prop := 0 ≤ x.i ∧ x.i ≤ 5 ∧ 1 ≤ x.pl.length ∧ (x.pl.length : Int) + x.i ≤ 6 ∧ p0 ≤ x.q ∧ x.q ≤ p0 + (5 - x.i) * 2 ∧ ¬ b = x.pb ∧ x.cp ≤ x.pl.length + x.j ∧ x.H b = some [.list ys.length (cat cY ys), .int .i64 x.q] ∧ x.H x.pb = some (cat cI x.pl ++ List.replicate x.j .any)
set_option maxHeartbeats 4000000 in
noncomputable def DrawPathValid_enc : (List Ints2 × List (List Int)) × List Int → D := fun x => .tup [sG x.1, li cI x.2]
attribute [go_sem] DrawPathValid_enc
theorem DrawPathValid_flat (x : (List Ints2 × List (List Int)) × List Int) : dat (DrawPathValid_enc x) = DrawPathValid_enc x := by simp [go_sem]
def DrawPathValid_good (xs : List UInt8) : (List Ints2 × List (List Int)) × List Int → Prop := fun _ => True
def DrawPathValid_gd (xs : List UInt8) (x : ((List Ints2 × List (List Int)) × List Int) × D) : Prop := DrawPathValid_good xs x.1 ∧ dat x.2 = DrawPathValid_enc x.1
noncomputable def DrawPathValid_selD (xs : List UInt8) (c : Any) : ((List Ints2 × List (List Int)) × List Int) × D := sel (DrawPathValid_gd xs) (((([], []), []) : (List Ints2 × List (List Int)) × List Int), DrawPathValid_enc ((([], []), []))) c
noncomputable def DrawPathValid_sel (xs : List UInt8) (c : Any) : (List Ints2 × List (List Int)) × List Int := (DrawPathValid_selD xs c).1
theorem DrawPathValid_okD (xs : List UInt8)  (c : Any) : DrawPathValid_gd xs (DrawPathValid_selD xs c) := by
  have hx : DrawPathValid_good xs ((([], []), [])) := trivial
  exact sel_ok (p := DrawPathValid_gd xs) (x0 := (((([], []), []) : (List Ints2 × List (List Int)) × List Int), DrawPathValid_enc ((([], []), [])))) ⟨hx, DrawPathValid_flat _⟩ c
theorem DrawPathValid_ok (xs : List UInt8)  (c : Any) : DrawPathValid_good xs (DrawPathValid_sel xs c) := (DrawPathValid_okD xs  c).1
theorem DrawPathValid_ret (xs : List UInt8) {e_ : Exit} {S_ : St} (x : (List Ints2 × List (List Int)) × List Int) (he_ : e_ = .ret ∨ e_ = .normal)
    (h1 : (takeRes Try.prog S_ Try.f21.results.toList).1 ∧ dat (resD (takeRes Try.prog S_ Try.f21.results.toList).2.1) = DrawPathValid_enc x) (hg : DrawPathValid_good xs x) :
    retR Try.prog Try.f21 (fun c => ((DrawPathValid_selD xs c).2, fun _ => none)) e_ S_ :=
  ret_prel (good := DrawPathValid_gd xs) (enc := fun x : ((List Ints2 × List (List Int)) × List Int) × D => x.2) (x, resD (takeRes Try.prog S_ Try.f21.results.toList).2.1) he_ ⟨h1.1, rfl⟩ ⟨hg, h1.2⟩
set_option maxHeartbeats 4000000 in
theorem DrawPathValid_pure (xs : List UInt8)  : SpecR Try.prog 21 [li cY xs] (fun _ => none) (fun c => ((DrawPathValid_selD xs c).2, fun _ => none)) := by
  refine SpecR.of_walk Try.func21 rfl (by simp [Try.f21]) fun B => ?_
  have hl := cut_len xs
  all_goals (repeat' (first
    | refine AW_seq ?_
    | refine AW_region (id := 0) Γe36f_ok [] (by kernel_rfl) ?_; simp  [-List.getD_eq_getElem?_getD, -List.drop_one, ↓splitB_true, ↓splitB_false, go_sem]
    | refine AW_region (id := 1) Γe36f_ok [] (by kernel_rfl) ?_; simp  [-List.getD_eq_getElem?_getD, -List.drop_one, ↓splitB_true, ↓splitB_false, go_sem]; try (refine AW_matBox 4 rfl fun b hb => ?_; clear hb)
    | ((have u1 := drawn_copy 0); (have u2 := drawn_pos); (have u3 : ∀ c, CopyOk (l4Graph_sel 0 c).1.1 (l4Graph_sel 0 c).1.2 := fun c => (u1 c).1); (have u4 : ∀ c, 1 ≤ (l4Graph_sel 0 c).1.1.length := fun c => (u1 c).2.1); (have u5 : ∀ c, (l4Graph_sel 0 c).1.1.length ≤ (l4Graph_sel 0 c).1.2.length := fun c => (u1 c).2.2.1)); refine AW_region (id := 2) Γe36f_ok [] (by kernel_rfl) ?_; simp  [-List.getD_eq_getElem?_getD, -List.drop_one, ↓splitB_true, ↓splitB_false, go_sem, hl, u2, u3, u4, u5]; try ((intro c2 c2'); (have z0 := u1 c2); (generalize l4Graph_sel 0 c2 = z at *); (obtain ⟨⟨ga, gb⟩, p1⟩ := z); (obtain ⟨z1, z2, z3, z4, z5⟩ := z0); (try dsimp only at z1 z2 z3 z4 z5); (have y0 := l4Mutate_ok ga gb z1 z2 z3 p1 c2'); (generalize l4Mutate_sel ga gb p1 c2' = y at *); (obtain ⟨⟨ma, mb⟩, p2⟩ := y); (simp only [l4Mutate_good] at y0); (obtain ⟨y1, y2, y3⟩ := y0); (try dsimp only at y2 y3); (have ymb : LenL 100001 mb := y1.2.2.2.2 100000 (by omega) z1.2.2.2); (refine AW_shut 5 ?_); (simp [go_sem]))
    | refine AW_region (id := 3) Γe36f_ok [] (by kernel_rfl) ?_; simp  [-List.getD_eq_getElem?_getD, -List.drop_one, ↓splitB_true, ↓splitB_false, go_sem, hl, (show 0 ≤ p2 by omega), (show p2 ≤ 1000000 by omega), (show 0 ≤ p2 + 1 by omega), (show p2 + 1 ≤ 1000000 by omega)]; try ((generalize numI (cut2000 xs) p2 [0, 0, 1, 2] = u0 at *))
    | refine AW_region (id := 4) Γe36f_ok [] (by kernel_rfl) ?_; simp  [-List.getD_eq_getElem?_getD, -List.drop_one, ↓splitB_true, ↓splitB_false, go_sem, hl, (show 0 ≤ p2 + 1 by omega), (show p2 + 1 ≤ 1000000 by omega), (show 0 ≤ p2 + 1 + 1 by omega), (show p2 + 1 + 1 ≤ 1000000 by omega)]; try ((have hr := numI_range (cut2000 xs) (p := p2 + 1) (by omega) (xs := [3, 1, 5, 0]) (lo := 0) (hi := 5) (by simp) (by simp)); (generalize numI (cut2000 xs) (p2 + 1) [3, 1, 5, 0] = kk at *); (refine AW_mat 6 rfl fun pb cp jx hp hc hd => ?_); (have n1 : ¬ b = pb := (by rintro rfl; simp [upd] at hp)); (clear hp); (obtain ⟨p0, hp0⟩ : ∃ p0, p0 = p2 + 1 + 1 := ⟨_, rfl⟩); (refine AW_gen (fun H1 => H1 b = some [.list (cut2000 xs).length (cat cY (cut2000 xs)), .int .i64 (p0)] ∧ H1 pb = some (cat cI [u0] ++ List.replicate jx .any)) ⟨by simp [upd, n1, Ne.symm n1, hp0], by simp [upd, n1, Ne.symm n1, cat_one, cI]⟩ fun H1 ⟨w1, w2⟩ => ?_))
    | refine AW_region (id := 5) Γe36f_ok [] (by kernel_rfl) ?_; simp  [-List.getD_eq_getElem?_getD, -List.drop_one, ↓splitB_true, ↓splitB_false, go_sem]
    | ((obtain ⟨x1, x2, x3, x4, x5, x6, x7, x8, x9, x10⟩ := hx); (have xl : x.pl.length - 1 < x.pl.length := (by omega)); (have xw := wrap_in (x := (x.pl.length : Int) - 1) (by omega) (by omega)); (have xt : ((x.pl.length : Int) - 1).toNat = x.pl.length - 1 := (by omega))); refine AW_region (id := 7) Γe36f_ok [] (by kernel_rfl) ?_; simp  [-List.getD_eq_getElem?_getD, -List.drop_one, ↓splitB_true, ↓splitB_false, go_sem, x10, x7, Ne.symm x7, xl, xw, xt, (show (0 : Int) ≤ (x.pl.length : Int) - 1 by omega), (show (1 : Int) ≤ (x.pl.length : Int) by omega), (show (x.pl.length : Int) - 1 < (x.pl.length : Int) by omega), (show x.pl.length - 1 < x.pl.length + x.j by omega), (show x.pl.length - 1 + 1 ≤ x.pl.length + x.j by omega)]; try ((obtain ⟨at_, hat⟩ : ∃ at_, nth x.pl (x.pl.length - 1) = at_ := ⟨_, rfl⟩); (rw [hat]); (by_cases e1 : at_ < 0); (have e2 := e1; have e3 := e1; have e4 := e1; have e5 := e1; have e6 := e1; have e7 := e1; have e8 := e1); rotate_left; (by_cases e2 : (mb.length : Int) ≤ at_); (have e3 := e2; have e4 := e2; have e5 := e2; have e6 := e2; have e7 := e2; have e8 := e2); rotate_left; (have e3 : 0 ≤ at_ := by omega); (have e4 : at_ < (mb.length : Int) := by omega); (have e5 : at_.toNat < mb.length := by omega); (have e6 := Nat.sub_pos_of_lt e5); (have e8 := ne_nil e5); (by_cases e7 : nth mb at_.toNat = []); rotate_left; rotate_left)
    | refine AW_region (id := 8) Γe36f_ok [34, 41, 50] (by kernel_rfl) ?_; simp  [-List.getD_eq_getElem?_getD, -List.drop_one, ↓splitB_true, ↓splitB_false, go_sem, e1, e2, e3, e4, e5, e6, e7, x9, x7, Ne.symm x7, hl, (show 0 ≤ x.q by omega), (show x.q ≤ 1000000 by omega), (show 0 ≤ x.q + 1 by omega), (show x.q + 1 ≤ 1000000 by omega), e8]; try (refine ⟨fun s8a => ?_, fun s8a => ?_⟩ <;> (try simp [B_iff, B_not] at s8a) <;> try (refine ⟨fun s8b => ?_, fun s8b => ?_⟩ <;> (try simp [B_iff, B_not] at s8b) <;> try (refine ⟨fun s8c => ?_, fun s8c => ?_⟩ <;> (try simp [B_iff, B_not] at s8c) <;> try (refine ⟨fun s8d => ?_, fun s8d => ?_⟩ <;> (try simp [B_iff, B_not] at s8d)))))
    | refine AW_region (id := 9) Γe36f_ok [] (by kernel_rfl) ?_; simp  [-List.getD_eq_getElem?_getD, -List.drop_one, ↓splitB_true, ↓splitB_false, go_sem, x9, x10, x7, Ne.symm x7, hl, (show 0 ≤ x.q by omega), (show x.q ≤ 1000000 by omega), (show 0 ≤ x.q + 1 by omega), (show x.q + 1 ≤ 1000000 by omega), (show 0 ≤ x.q + 1 + 1 by omega), (show x.q + 1 + 1 ≤ 1000000 by omega), (show x.pl.length ≤ 9223372036854775806 by omega), (show 2 * (x.pl.length + 1) * 8 ≤ 281474976710656 by omega), (show x.pl.length ≤ x.pl.length + x.j by omega), x8, snoc_cI, cat_take_app1]; try ((refine AW_mat 6 rfl fun pb2 cp2 j2 hp2 hc2 hd2 => ?_); (have m1 : ¬ b = pb2 := (by intro e; rw [← e] at hp2; simp [upd, x7, Ne.symm x7] at hp2)); (clear hp2); (refine AW_gen (fun H2 => ∃ q2 v2, x.q + 1 ≤ q2 ∧ q2 ≤ x.q + 2 ∧ H2 b = some [.list (cut2000 xs).length (cat cY (cut2000 xs)), .int .i64 (q2)] ∧ H2 pb2 = some (cat cI (x.pl ++ [v2]) ++ List.replicate j2 .any)) (by first | (refine ⟨x.q + 1, numI (cut2000 xs) x.q [0, 1, 2, -1, 60], ?_, ?_, ?_, ?_⟩ <;> first | omega | (simp [upd, m1, x7, Ne.symm x7, x9, snoc_cI]; done)) | (refine ⟨x.q + 1 + 1, numI (cut2000 xs) (x.q + 1) [0, 1, 2, -1, 60], ?_, ?_, ?_, ?_⟩ <;> first | omega | (simp [upd, m1, x7, Ne.symm x7, x9, snoc_cI]; done))) fun H2 ⟨q2, vv, s0, s9, s1, s2⟩ => ?_); (have v2 : PVi (cut2000 xs) b p0 ⟨x.pl ++ [vv], x.i - 1, q2, pb2, cp2, j2, H2⟩ := ⟨by dsimp only; omega, by dsimp only; omega, by simp, by simp; omega, by dsimp only; omega, by dsimp only; omega, m1, by simp; omega, s1, s2⟩); (have hpl2 : x.pl.length + 1 = (x.pl ++ [vv]).length := (by simp)); (generalize x.pl ++ [vv] = pl2 at *))
    | ((have g1 : 0 < (nth mb at_.toNat).length := (by rcases hh : nth mb at_.toNat with _ | ⟨_, _⟩; (exact absurd hh e7); simp)); (have g2 : (nth mb at_.toNat).length ≤ 100001 := ymb _ (nth_mem e5)); (obtain ⟨g3, g4⟩ := pkI_range (cut2000 xs) (p := x.q + 1) (by omega) (n := ((nth mb at_.toNat).length : Int)) (by omega)); (have g5 : (pkI (cut2000 xs) (x.q + 1) (nth mb at_.toNat).length).toNat < (nth mb at_.toNat).length := (by omega))); refine AW_region_snap (id := 10) Γe36f_ok mixed [] [] [5, 8] (by kernel_rfl) (by kernel_rfl) (by simp [-List.getD_eq_getElem?_getD, -List.drop_one, ↓splitB_true, ↓splitB_false, go_sem, e1, e2, e3, e4, e5, e6, e7, e8, g1, g3, g4, g5, Nat.sub_pos_of_lt g5, x9, x10, x7, Ne.symm x7, hl, (show 0 ≤ x.q + 1 by omega), (show x.q + 1 ≤ 1000000 by omega), (show 0 ≤ x.q + 1 + 1 by omega), (show x.q + 1 + 1 ≤ 1000000 by omega), (show ((nth mb at_.toNat).length : Int) ≤ 1000000 by omega), (show x.pl.length ≤ 9223372036854775806 by omega), (show 2 * (x.pl.length + 1) * 8 ≤ 281474976710656 by omega), (show x.pl.length ≤ x.pl.length + x.j by omega), x8, snoc_cI, cat_take_app1]) (by simp [-List.getD_eq_getElem?_getD, -List.drop_one, ↓splitB_true, ↓splitB_false, go_sem, e1, e2, e3, e4, e5, e6, e7, e8, g1, g3, g4, g5, Nat.sub_pos_of_lt g5, x9, x10, x7, Ne.symm x7, hl, (show 0 ≤ x.q + 1 by omega), (show x.q + 1 ≤ 1000000 by omega), (show 0 ≤ x.q + 1 + 1 by omega), (show x.q + 1 + 1 ≤ 1000000 by omega), (show ((nth mb at_.toNat).length : Int) ≤ 1000000 by omega), (show x.pl.length ≤ 9223372036854775806 by omega), (show 2 * (x.pl.length + 1) * 8 ≤ 281474976710656 by omega), (show x.pl.length ≤ x.pl.length + x.j by omega), x8, snoc_cI, cat_take_app1]) ?_; simp  [-List.getD_eq_getElem?_getD, -List.drop_one, ↓splitB_true, ↓splitB_false, go_sem, e1, e2, e3, e4, e5, e6, e7, e8, g1, g3, g4, g5, Nat.sub_pos_of_lt g5, x9, x10, x7, Ne.symm x7, hl, (show 0 ≤ x.q + 1 by omega), (show x.q + 1 ≤ 1000000 by omega), (show 0 ≤ x.q + 1 + 1 by omega), (show x.q + 1 + 1 ≤ 1000000 by omega), (show ((nth mb at_.toNat).length : Int) ≤ 1000000 by omega), (show x.pl.length ≤ 9223372036854775806 by omega), (show 2 * (x.pl.length + 1) * 8 ≤ 281474976710656 by omega), (show x.pl.length ≤ x.pl.length + x.j by omega), x8, snoc_cI, cat_take_app1]; try ((refine AW_mat 6 rfl fun pb2 cp2 j2 hp2 hc2 hd2 => ?_); (have m1 : ¬ b = pb2 := (by intro e; rw [← e] at hp2; simp [upd, x7, Ne.symm x7] at hp2)); (clear hp2); (refine AW_gen (fun H2 => ∃ q2 v2, x.q + 1 ≤ q2 ∧ q2 ≤ x.q + 2 ∧ H2 b = some [.list (cut2000 xs).length (cat cY (cut2000 xs)), .int .i64 (q2)] ∧ H2 pb2 = some (cat cI (x.pl ++ [v2]) ++ List.replicate j2 .any)) (by first | (refine ⟨x.q + 1 + 1, nth (nth mb at_.toNat) (pkI (cut2000 xs) (x.q + 1) (nth mb at_.toNat).length).toNat, ?_, ?_, ?_, ?_⟩ <;> first | omega | (simp [upd, m1, x7, Ne.symm x7, x9, snoc_cI]; done))) fun H2 ⟨q2, vv, s0, s9, s1, s2⟩ => ?_); (have v2 : PVi (cut2000 xs) b p0 ⟨x.pl ++ [vv], x.i - 1, q2, pb2, cp2, j2, H2⟩ := ⟨by dsimp only; omega, by dsimp only; omega, by simp, by simp; omega, by dsimp only; omega, by dsimp only; omega, m1, by simp; omega, s1, s2⟩); (have hpl2 : x.pl.length + 1 = (x.pl ++ [vv]).length := (by simp)); (generalize x.pl ++ [vv] = pl2 at *))
    | refine AW_region (id := 6) Γe36f_ok [] (by kernel_rfl) ?_; simp  [-List.getD_eq_getElem?_getD, -List.drop_one, ↓splitB_true, ↓splitB_false, go_sem, wrap_in (x := x.i - 1) (by omega) (by omega)]
    | ((obtain ⟨x1, x2, x3, x4, x5, x6, x7, x8, x9, x10⟩ := hx)); refine AW_region (id := 11) Γe36f_ok [] (by kernel_rfl) ?_; simp  [-List.getD_eq_getElem?_getD, -List.drop_one, ↓splitB_true, ↓splitB_false, go_sem, x9, hl, (show 0 ≤ x.q by omega), (show x.q ≤ 1000000 by omega), (show 0 ≤ x.q + 1 by omega), (show x.q + 1 ≤ 1000000 by omega)]
    | refine AW_region (id := 12) Γe36f_ok [] (by kernel_rfl) ?_; simp  [-List.getD_eq_getElem?_getD, -List.drop_one, ↓splitB_true, ↓splitB_false, go_sem]
    | (first | (refine AW_unmat 6 (b := x.pb) (sz := 1) (m := x.pl.length) (cp := x.cp) (all := cat cI x.pl ++ List.replicate x.j .any) rfl (by simp [upd, x7, Ne.symm x7, x10]) (by omega) (by simp [cat_length]) (by simp [cat_length]; omega) ?_) | skip); refine AW_region (id := 13) Γe36f_ok [] (by kernel_rfl) ?_; simp  [-List.getD_eq_getElem?_getD, -List.drop_one, ↓splitB_true, ↓splitB_false, go_sem, cat_take_app1]
    | refine AW_condA (c := .tmp 23) ?_; simp [-List.getD_eq_getElem?_getD, -List.drop_one, ↓splitB_true, ↓splitB_false, go_sem]; try first | (refine ⟨?_, ?_⟩ <;> change AW _ _ _ _ _ _) | (refine ⟨fun c23 => ?_, fun c23 => ?_⟩ <;> (try simp [B_iff, B_not] at c23))
    | refine AW_condA (c := .tmp 54) ?_; simp [-List.getD_eq_getElem?_getD, -List.drop_one, ↓splitB_true, ↓splitB_false, go_sem]; try first | (refine ⟨?_, ?_⟩ <;> change AW _ _ _ _ _ _) | (refine ⟨fun c54 => ?_, fun c54 => ?_⟩ <;> (try simp [B_iff, B_not] at c54))
    | refine AW_condA (c := .tmp 81) ?_; simp [-List.getD_eq_getElem?_getD, -List.drop_one, ↓splitB_true, ↓splitB_false, go_sem]; try first | (refine ⟨?_, ?_⟩ <;> change AW _ _ _ _ _ _) | (refine ⟨fun c81 => ?_, fun c81 => ?_⟩ <;> (try simp [B_iff, B_not] at c81))
    | (refine AW_block (id := 0) (AW_loop (ι := PV) (fun x : PV => ⟨(upd (upd (upd (upd (upd (fun _ => .any) 2 (.box [.nil, .nil])) 4 (.ptr b 0)) 5 (.pd [li cP ma, li cL mb])) 6 (.sl x.pb 1 0 x.pl.length x.cp)) 7 (.int .i64 x.i)), x.H⟩) (fun x => PVi (cut2000 xs) b p0 x) (fun x => x.i.toNat) (⟨[u0], kk, p0, pb, cp, jx, H1⟩) ?_ ?_ ?_); exact ⟨by dsimp only; omega, by dsimp only; omega, by simp, by simp; omega, by dsimp only; omega, by dsimp only; omega, n1, by simpa using hd, w1, w2⟩; ((repeat' (first | exact sub_noneH (by assumption) | exact sub_none | refine sub_upd ?_ ?_ | refine sub_noneE ?_)) <;> simp [-List.getD_eq_getElem?_getD, -List.drop_one, ↓splitB_true, ↓splitB_false, go_sem]); rintro x hx)
    | (refine ⟨⟨pl2, x.i - 1, q2, pb2, cp2, j2, H2⟩, v2, by first | omega | (simp; done) | (simp; omega), ?_⟩; ((repeat' (first | exact sub_noneH (by assumption) | exact sub_none | refine sub_upd ?_ ?_ | refine sub_noneE ?_)) <;> simp [-List.getD_eq_getElem?_getD, -List.drop_one, ↓splitB_true, ↓splitB_false, go_sem, hpl2]))
    | (refine AW_block ?_)
    | (refine AW_exit ?_; simp [-List.getD_eq_getElem?_getD, -List.drop_one, ↓splitB_true, ↓splitB_false, go_sem])
    | (refine AW_skip ?_; simp [-List.getD_eq_getElem?_getD, -List.drop_one, ↓splitB_true, ↓splitB_false, go_sem])
    | (refine AW_ret ?_; try simp [-List.getD_eq_getElem?_getD, -List.drop_one, ↓splitB_true, ↓splitB_false, go_sem, Try.results21])
    | (intro hx; change AW _ _ _ _ _ _)
    | (intro hx; change retR _ _ _ _ _)
    | (refine ⟨?_, ?_⟩ <;> change AW _ _ _ _ _ _)
    | (intro hx; refine ⟨fun hs => ?_, fun hs => ?_⟩)
    | (refine ⟨fun hs => ?_, fun hs => ?_⟩)
    | (refine ⟨?_, fun hs => ?_⟩; change AW _ _ _ _ _ _)
    | (refine ⟨fun hs => ?_, ?_⟩; rotate_left; change AW _ _ _ _ _ _; rotate_left)))
  all_goals (first
    | (refine DrawPathValid_ret _ (((ma, mb), x.pl)) ?_ ?_ ?_; (first | exact Or.inl rfl | exact Or.inr rfl); (focus (simp [-List.getD_eq_getElem?_getD, -List.drop_one, ↓splitB_true, ↓splitB_false, go_sem, Try.results21, dat, datL_map, li, cat_flat2, cat_take_app1]; done)); (focus ((trivial); done)))
    | (refine DrawPathValid_ret _ (((ma, mb), [])) ?_ ?_ ?_; (first | exact Or.inl rfl | exact Or.inr rfl); (focus (simp [-List.getD_eq_getElem?_getD, -List.drop_one, ↓splitB_true, ↓splitB_false, go_sem, Try.results21, dat, datL_map, datL, li, cat_flat2, cat_nil]; done)); (focus ((trivial); done)))
    | skip)
noncomputable def DrawPathValidC : Con := .rel fun args H => match args with
  | [.list n_xs c_xs] => ((Is cY n_xs c_xs), fun c => (DrawPathValid_enc (DrawPathValid_sel (de cY c_xs) c), H))
  | _ => (False, fun _ => (.any, H))
attribute [go_sem] DrawPathValidC
theorem DrawPathValidC_ok : ConOk Try.prog 21 DrawPathValidC := by
  refine ⟨callable Try.func21 (by decide) rfl, fun args H h => ?_⟩
  revert h
  dsimp only
  split
  · intro h
    obtain ⟨xs, rfl, rfl⟩ := h
    try simp only [de_cat] at *
    exact SpecR.enc ((SpecR.frame0 (DrawPathValid_pure xs ) (H := H)).shut) fun c => Prod.ext (DrawPathValid_okD _  c).2.symm rfl
  · intro h
    exact h.elim
noncomputable def Γe38 : FuncId → Con := ext Γe36f 21 DrawPathValidC
attribute [go_sem] Γe38
theorem Γe38_ok : ∀ g, ConOk Try.prog g (Γe38 g) := ext_ok Γe36f_ok DrawPathValidC_ok
end Go.Proofs.Ytljncoikoffijaa.Vm

